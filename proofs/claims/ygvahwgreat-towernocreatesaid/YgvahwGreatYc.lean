import Derived.Test.YgvahwGreatYr
import Derived.Test.YgvahwGreatNh
import Derived.Test.YgvahwGreatTr
import Derived.Test.YgvahwGreatRowsN
import Derived.Lib.LazyBuf
import Derived.Deep.DeepCutAuto
import Derived.Deep.CutBlock
namespace Go.Proofs.YgvahwGreat
open Go.RowKit
set_option linter.unusedSimpArgs false
theorem under93' : Hvah.prog.underlying 106 = some (.slice 121) := by kernel_rfl
theorem onet93' : OneT 106 := oneT_of (by kernel_rfl) (by kernel_rfl)
theorem under97' : Hvah.prog.underlying 110 = some (.slice 304) := by kernel_rfl
theorem onet97' : OneT 110 := oneT_of (by kernel_rfl) (by kernel_rfl)
theorem under95' : Hvah.prog.underlying 108 = some (.slice 241) := by kernel_rfl
theorem onet95' : OneT 108 := oneT_of (by kernel_rfl) (by kernel_rfl)
theorem under106' : Hvah.prog.underlying 119 = some (.slice 125) := by kernel_rfl
theorem onet94' : OneT 107 := oneT_of (by kernel_rfl) (by kernel_rfl)
theorem onet44' : OneT 49 := oneT_of (by kernel_rfl) (by kernel_rfl)
theorem onet106' : OneT 119 := oneT_of (by kernel_rfl) (by kernel_rfl)
theorem onet96' : OneT 109 := oneT_of (by kernel_rfl) (by kernel_rfl)
theorem onet32' : OneT 23 := oneT_of (by kernel_rfl) (by kernel_rfl)
theorem rt99 : RowT 112 8 := rowT_of (by kernel_rfl) (by kernel_rfl)
theorem zero99' : zeroOf Hvah.prog 112 = some #[.slice none 0 0, .slice none 0 0, .slice none 0 0, .slice none 0 0, .slice none 0 0, .slice none 0 0, .slice none 0 0, .slice none 0 0] := by kernel_rfl
theorem zero108' : zeroOf Hvah.prog 121 = some (acR 0 (.slice none 0 0) (.slice none 0 0) (.slice none 0 0) (.slice none 0 0)) := by kernel_rfl
theorem zero116' : zeroOf Hvah.prog 125 = some #[.slice none 0 0, .slice none 0 0] := by kernel_rfl
theorem zero296' : zeroOf Hvah.prog 304 = some (tmR 0 (.slice none 0 0) (.slice none 0 0)) := by kernel_rfl
theorem zero233' : zeroOf Hvah.prog 241 = some (mkR 0 (.slice none 0 0)) := by kernel_rfl
theorem el108 : ElT 121 24 (acR 0 (.slice none 0 0) (.slice none 0 0) (.slice none 0 0) (.slice none 0 0)) := ⟨⟨Hvah.t121, .agg (acR 0 (.slice none 0 0) (.slice none 0 0) (.slice none 0 0) (.slice none 0 0)), by kernel_rfl, by kernel_rfl, rfl, by kernel_rfl, by decide +kernel⟩, acR_size (by decide) _ _ _ _, by decide⟩
theorem el116 : ElT 125 2 #[.slice none 0 0, .slice none 0 0] := ⟨⟨Hvah.t125, .agg #[.slice none 0 0, .slice none 0 0], by kernel_rfl, by kernel_rfl, rfl, by kernel_rfl, by decide +kernel⟩, rfl, by decide⟩
theorem el296 : ElT 304 22 (tmR 0 (.slice none 0 0) (.slice none 0 0)) := ⟨⟨Hvah.t304, .agg (tmR 0 (.slice none 0 0) (.slice none 0 0)), by kernel_rfl, by kernel_rfl, rfl, by kernel_rfl, by decide +kernel⟩, tmR_size (by decide) _ _, by decide⟩
theorem el233 : ElT 241 21 (mkR 0 (.slice none 0 0)) := ⟨⟨Hvah.t241, .agg (mkR 0 (.slice none 0 0)), by kernel_rfl, by kernel_rfl, rfl, by kernel_rfl, by decide +kernel⟩, mkR_size (by decide) _, by decide⟩
/-- The new world with its refund and logs. -/
def w8 (u v : Value) : Array Value := #[.slice none 0 0, .slice none 0 0, .slice none 0 0, u, v, .slice none 0 0, .slice none 0 0, .slice none 0 0]
theorem b99 {u v : Value} (hu : u.oneCell' = true) (hv : v.oneCell' = true) : ∀ w, (Instr.build 112 ([(3, u), (4, v)] : List (Nat × Value)).toArray).run Hvah.prog w = .ok (.agg (w8 u v)) w := fun w => by
  rw [run_build_gen (pl := [(0, 1), (1, 1), (2, 1), (3, 1), (4, 1), (5, 1), (6, 1), (7, 1)]) (z := #[.slice none 0 0, .slice none 0 0, .slice none 0 0, .slice none 0 0, .slice none 0 0, .slice none 0 0, .slice none 0 0, .slice none 0 0]) (by kernel_rfl) (by kernel_rfl) ([(3, u), (4, v)] : List (Nat × Value)) ⟨3, 1, rfl, by rw [one_cells hu]; rfl, by decide, 4, 1, rfl, by rw [one_cells hv]; rfl, by decide, trivial⟩ w]
  congr 2
  refine ext_cf (by rw [bld_size]; rfl) (fun i hi => ?_)
  rw [bld_size] at hi
  have hi : i < 8 := hi
  rw [bld_get _ _ _ hi]
  simp only [partsA, List.map_cons, List.map_nil, List.getD_cons_zero, List.getD_cons_succ, bldc, one_cells hu, one_cells hv, layv_one]
  match i, hi with
  | 0, _ => rw [updv_ne _ _ (by decide), updv_ne _ _ (by decide)]; rfl
  | 1, _ => rw [updv_ne _ _ (by decide), updv_ne _ _ (by decide)]; rfl
  | 2, _ => rw [updv_ne _ _ (by decide), updv_ne _ _ (by decide)]; rfl
  | 3, _ => rw [updv_ne _ _ (by decide), updv_same]; rfl
  | 4, _ => rw [updv_same]; rfl
  | 5, _ => rw [updv_ne _ _ (by decide), updv_ne _ _ (by decide)]; rfl
  | 6, _ => rw [updv_ne _ _ (by decide), updv_ne _ _ (by decide)]; rfl
  | 7, _ => rw [updv_ne _ _ (by decide), updv_ne _ _ (by decide)]; rfl
theorem w8_ones {u v : Value} (hu : u.oneCell' = true) (hv : v.oneCell' = true) : Ones (w8 u v) := fun x hx => by
  simp [w8] at hx
  rcases hx with rfl | rfl | rfl | rfl | rfl | rfl | rfl | rfl <;> first | rfl | assumption
/-- A list that is being laid: its first i elements stand. -/
def Laid {α : Type} (e : TypeId) (sz g : Nat) (R : Nat → (Nat → Value) → Nat → α → Prop) (w : World) (v : Value) (l : List α) (i : Nat) : Prop :=
  (l = [] ∧ v = .slice none 0 0) ∨ ∃ B c, v = .slice (some ⟨B, 0, none⟩) l.length l.length ∧ Blk w B (l.length * sz) e c ∧ g ≤ B ∧ ∀ (k : Nat) (_ : k < i) (h : k < l.length), R B c (k * sz) l[k]
theorem joinU {P Fc : Nat → World → Value → Value → Prop} {G : Prop} (h : (∀ B W u v, Fc B W u v → P B W u v) → G) (k : ∀ B W u v, Fc B W u v → P B W u v) : G := h k
theorem joinU3 {P Fc : Nat → World → Value → Value → Value → Prop} {G : Prop} (h : (∀ B W u v x, Fc B W u v x → P B W u v x) → G) (k : ∀ B W u v x, Fc B W u v x → P B W u v x) : G := h k
theorem full_one {v : Value} {O : Nat → Prop} {w : World} {T : Nat → Prop} {l : List ALog} (h : LogL T O w v l) : v.oneCell' = true := by
  rcases h with ⟨_, rfl⟩ | ⟨_, _, _, rfl, _⟩ <;> rfl
theorem layv_atc (c : Nat → Value) (o : Nat) (r : Array Value) (j : Nat) (h1 : o ≤ j) (h2 : j < o + r.size) : layv c o r j = cf r (j - o) := by
  have := layv_in c o r (j := j - o) (by omega)
  rw [show o + (j - o) = j by omega] at this; exact this
theorem aat_onec {c : Nat → Value} {o a : Nat} (h : AAt c o a) (ha : a < 2 ^ 160) (i : Nat) (hi : i < 20) : (c (o + i)).oneCell' = true := by
  have := h i _ (get_cf (r := av a) (by rw [av_size ha]; exact hi))
  rw [this]; exact Ones.get (r := av a) (av_one a) (by rw [av_size ha]; exact hi)
theorem NL.onec {O : Nat → Prop} {w : World} {v : Value} {l : List Nat} (h : NL O w v l) : v.oneCell' = true := by obtain ⟨_, _, rfl, _⟩ := h; rfl
theorem Small.wd3 {O : Nat → Prop} {w w' : World} {B n : Nat} {t : TypeId} {c : Nat → Value} (h : Small O w) (e : Ext w w') (hB : Blk w' B n t c) : Small (Wd O B) w' := fun b hb => by
  rcases hb with hb | hb
  · exact Nat.lt_of_lt_of_le (h b hb) e.size
  · rw [hb]; exact hB.lt
theorem blk_laid8 {W : World} {B : Nat} {u v : Value} (h : Blk W B 8 112 (layv (cf #[.slice none 0 0, .slice none 0 0, .slice none 0 0, .slice none 0 0, .slice none 0 0, .slice none 0 0, .slice none 0 0, .slice none 0 0]) 0 (w8 u v))) : Blk W B 8 112 (cf (w8 u v)) :=
  h.same (fun i hi => by
    have := layv_in (cf #[.slice none 0 0, .slice none 0 0, .slice none 0 0, .slice none 0 0, .slice none 0 0, .slice none 0 0, .slice none 0 0, .slice none 0 0]) 0 (w8 u v) (j := i) (by exact hi)
    rw [Nat.zero_add] at this; rw [this])
theorem blk_laid24 {W : World} {B : Nat} {z r : Array Value} (hr : r.size = 24) (h : Blk W B 24 121 (layv (cf z) 0 r)) : Blk W B 24 121 (cf r) :=
  h.same (fun i hi => by
    have := layv_in (cf z) 0 r (j := i) (by rw [hr]; exact hi)
    rw [Nat.zero_add] at this; rw [this])
theorem two_ones {u v : Value} (hu : u.oneCell' = true) (hv : v.oneCell' = true) : Ones #[u, v] := fun x hx => by
  simp at hx
  rcases hx with rfl | rfl <;> assumption
/-- What a growing row's value is. -/
theorem grow_split {α : Type} {ty : TypeId} {sz : Nat} {R : (Nat → Value) → Nat → α → Prop} {T : Nat → Prop} {w : World} {v : Value} {l : List α} (h : GRow ty sz R T w v l) :
    ∃ base cap, v = .slice base l.length cap ∧ (base = none → l = []) ∧ (l ≠ [] → ∃ b c, base = some ⟨b, 0, none⟩ ∧ Blk w b (cap * sz) ty c ∧ l.length ≤ cap ∧ ∀ (i : Nat) (h : i < l.length), R c (i * sz) l[i]) := by
  rcases h with ⟨rfl, rfl⟩ | ⟨b, cap, c, rfl, h2, h3, h4, h5, h6⟩
  · exact ⟨none, 0, rfl, fun _ => rfl, fun q => absurd rfl q⟩
  · exact ⟨some ⟨b, 0, none⟩, cap, rfl, (fun q => by cases q), fun _ => ⟨b, c, rfl, h4, h2, h6⟩⟩
theorem grow_one {α : Type} {ty : TypeId} {sz : Nat} {R : (Nat → Value) → Nat → α → Prop} {T : Nat → Prop} {w : World} {v : Value} {l : List α} (h : GRow ty sz R T w v l) : v.oneCell' = true := by
  rcases h with ⟨_, rfl⟩ | ⟨_, _, _, rfl, _⟩ <;> rfl
theorem acR_23 {a : Nat} (ha : a < 2 ^ 160) {u1 u2 u3 u4 : Value} : cf (acR a u1 u2 u3 u4) 23 = u4 := by
  unfold acR; rw [cf_append, if_neg (by rw [av_size ha]; omega), av_size ha]; rfl
theorem acR_20 {a : Nat} (ha : a < 2 ^ 160) {u1 u2 u3 u4 : Value} : cf (acR a u1 u2 u3 u4) 20 = u1 := by
  unfold acR; rw [cf_append, if_neg (by rw [av_size ha]; omega), av_size ha]; rfl
theorem acR_21 {a : Nat} (ha : a < 2 ^ 160) {u1 u2 u3 u4 : Value} : cf (acR a u1 u2 u3 u4) 21 = u2 := by
  unfold acR; rw [cf_append, if_neg (by rw [av_size ha]; omega), av_size ha]; rfl
theorem acR_22 {a : Nat} (ha : a < 2 ^ 160) {u1 u2 u3 u4 : Value} : cf (acR a u1 u2 u3 u4) 22 = u3 := by
  unfold acR; rw [cf_append, if_neg (by rw [av_size ha]; omega), av_size ha]; rfl
theorem SloL.keepc {O S : Nat → Prop} {w w' : World} {v : Value} {l : List (Nat × Nat)} (h : SloL O w v l) (m : Mod S w w') (hs : ∀ b, ¬ O b → ¬ S b) : SloL O w' v l := h.mono (fun _ _ _ k => ⟨k.key.keep m hs, k.val.keep m hs⟩) (fun _ _ k => k) (fun b _ _ _ k q => k.mod m (hs b q))
theorem YAC.liftc {O S : Nat → Prop} {w w1 w' : World} {c : Nat → Value} {o : Nat} {x : YA} (h : YAC O w c o x) (e : Ext w w1) (m : Mod S w1 w') (hs : ∀ b, ¬ O b → ¬ S b) : YAC O w' c o x :=
  ⟨h.addr, h.parts.aLt, (h.parts.nonce.ext e).keep m hs, (h.parts.bal.ext e).keep m hs, (h.parts.code.ext e).keep m hs, (SloL.ext h.parts.slots e).keepc m hs⟩
theorem YAC.cellsc {O : Nat → Prop} {w : World} {c c' : Nat → Value} {o : Nat} {x : YA} (h : YAC O w c o x) (g : ∀ j, j < 24 → c' (o + j) = c (o + j)) : YAC O w c' o x := by
  refine ⟨fun j u hu => ?_, h.parts.aLt, ?_, ?_, ?_, ?_⟩
  · have hj := (Array.getElem?_eq_some_iff.1 hu).1
    rw [av_size h.parts.aLt] at hj
    rw [g j (by omega)]; exact h.addr j u hu
  · rw [g 20 (by decide)]; exact h.parts.nonce
  · rw [g 21 (by decide)]; exact h.parts.bal
  · rw [g 22 (by decide)]; exact h.parts.code
  · rw [g 23 (by decide)]; exact h.parts.slots
theorem TmC.liftc {O S : Nat → Prop} {w w1 w' : World} {c : Nat → Value} {o : Nat} {x : Nat × Nat × Nat} (h : TmC O w c o x) (e : Ext w w1) (m : Mod S w1 w') (hs : ∀ b, ¬ O b → ¬ S b) : TmC O w' c o x := ⟨h.addr, h.aLt, (h.key.ext e).keep m hs, (h.val.ext e).keep m hs⟩
theorem TmC.cellsc {O : Nat → Prop} {w : World} {c c' : Nat → Value} {o : Nat} {x : Nat × Nat × Nat} (h : TmC O w c o x) (g : ∀ j, j < 22 → c' (o + j) = c (o + j)) : TmC O w c' o x := by
  refine ⟨fun j u hu => ?_, h.aLt, ?_, ?_⟩
  · have hj := (Array.getElem?_eq_some_iff.1 hu).1
    rw [av_size h.aLt] at hj
    rw [g j (by omega)]; exact h.addr j u hu
  · rw [g 20 (by decide)]; exact h.key
  · rw [g 21 (by decide)]; exact h.val
theorem MkC.liftc {O S : Nat → Prop} {w w1 w' : World} {c : Nat → Value} {o : Nat} {x : Nat × Nat} (h : MkC O w c o x) (e : Ext w w1) (m : Mod S w1 w') (hs : ∀ b, ¬ O b → ¬ S b) : MkC O w' c o x := ⟨h.addr, h.aLt, (h.key.ext e).keep m hs⟩
theorem MkC.cellsc {O : Nat → Prop} {w : World} {c c' : Nat → Value} {o : Nat} {x : Nat × Nat} (h : MkC O w c o x) (g : ∀ j, j < 21 → c' (o + j) = c (o + j)) : MkC O w c' o x := by
  refine ⟨fun j u hu => ?_, h.aLt, ?_⟩
  · have hj := (Array.getElem?_eq_some_iff.1 hu).1
    rw [av_size h.aLt] at hj
    rw [g j (by omega)]; exact h.addr j u hu
  · rw [g 20 (by decide)]; exact h.key
theorem TmC.thinc {O : Nat → Prop} {B : Nat} {w : World} {c : Nat → Value} {o : Nat} {x : Nat × Nat × Nat} (h : TmC (Wd O B) w c o x) : TmC O w c o x := ⟨h.addr, h.aLt, h.key.narrow, h.val.narrow⟩
theorem MkC.thinc {O : Nat → Prop} {B : Nat} {w : World} {c : Nat → Value} {o : Nat} {x : Nat × Nat} (h : MkC (Wd O B) w c o x) : MkC O w c o x := ⟨h.addr, h.aLt, h.key.narrow⟩
theorem mkR_onec {a : Nat} {u : Value} (hu : u.oneCell' = true) : ∀ x ∈ (mkR a u).toList, x.oneCell' = true := fun x hx => by
  simp only [mkR, Array.toList_append, List.mem_append] at hx
  rcases hx with hx | hx
  · exact av_one a x hx
  · simp at hx; subst hx; exact hu
theorem YWC.cellsc {O : Nat → Prop} {w : World} {d d' : Nat → Value} {W : YW} (h : YWC O w d 0 W) (hd : ∀ j, j < 8 → d' (0 + j) = d j) : YWC O w d' 0 W where
  accts := by have := hd 0 (by decide); simp only [Nat.add_zero] at this; rw [this]; exact h.accts
  warmA := by rw [hd 1 (by decide)]; exact h.warmA
  warmS := by rw [hd 2 (by decide)]; exact h.warmS
  refund := by rw [hd 3 (by decide)]; exact h.refund
  temps := by rw [hd 5 (by decide)]; exact h.temps
  made := by rw [hd 6 (by decide)]; exact h.made
  gone := by rw [hd 7 (by decide)]; exact h.gone
theorem SloL.thin {O : Nat → Prop} {B : Nat} {w : World} {v : Value} {l : List (Nat × Nat)} (h : SloL (Wd O B) w v l) : SloL O w v l := h.mono (fun _ _ _ k => ⟨k.key.narrow, k.val.narrow⟩) (fun _ _ k q => k (Or.inl q)) (fun _ _ _ _ k _ => k)
theorem AcP.thin {O : Nat → Prop} {B : Nat} {w : World} {x : YA} {u1 u2 u3 u4 : Value} (h : AcP (Wd O B) w x u1 u2 u3 u4) : AcP O w x u1 u2 u3 u4 := ⟨h.aLt, h.nonce.narrow, h.bal.narrow, h.code.narrow, h.slots.thin⟩
theorem YAC.thin {O : Nat → Prop} {B : Nat} {w : World} {c : Nat → Value} {o : Nat} {x : YA} (h : YAC (Wd O B) w c o x) : YAC O w c o x := ⟨h.addr, h.parts.thin⟩
section
variable {O T : Nat → Prop} {w : World} {Y : Nat} {c : Nat → Value} {WW : YW}
set_option maxRecDepth 100000 in
set_option maxHeartbeats 6400000 in
theorem yClone (HLG : ∀ {O T : Nat → Prop} {w : World} {v : Value} {l : List ALog}, Small O w → LogL T O w v l → l.length ≤ 100000 → Calls Hvah.prog 80 #[v] w fun e w' => ∃ r, e = .returned r ∧ GRow 141 22 (LgC O w') (fun b => ¬ O b) w' r l ∧ Full r ∧ Ext w w') (hO : Small O w) (hB : Blk w Y 179 118 c) (hwc : YWC O w c 0 WW) (hlg : LogL T O w (c 4) WW.logs) (hlim : YLim WW) (hsl : ∀ x ∈ WW.accts, x.slots.length ≤ 90000) : Calls Hvah.prog 140 #[.pointer (some ⟨Y, 0, none⟩)] w fun e w' => ∃ r : Array Value, e = .returned (.agg r) ∧ r.size = 8 ∧ Ones r ∧ YWC O w' (cf r) 0 WW ∧ LogL (fun b => ¬ O b) O w' (cf r 4) WW.logs ∧ Full (cf r 4) ∧ Ext w w' := by
  obtain ⟨lr, hlr, hlr2⟩ := hwc.refund
  have hll : WW.logs.length ≤ 100000 := Nat.le_trans hlim.logs (by decide)
  have hna : WW.accts.length ≤ 1000000 := Nat.le_trans hlim.accts (by decide)
  have hnt : WW.temps.length ≤ 1000000 := Nat.le_trans hlim.temps (by decide)
  have hnm : WW.warmS.length ≤ 1000000 := Nat.le_trans hlim.warmS (by decide)
  go_enter Hvah.func140, Hvah.ntmps140
  go_upto_region 1 with ((with_reducible (refine Veil.out ?_; apply wl_allocB zero99')); (case hn => rfl); rintro B2 W2 e2 b2 g2)
  have hO2 : Small (Wd O B2) W2 := hO.wd3 e2 b2
  have hlg2 : LogL T (Wd O B2) w (c 4) WW.logs := hlg.mono (fun _ _ _ k => k.widen g2) (fun _ _ k => k) (fun _ _ _ _ k _ => k)
  have hlg3 : ∀ B, w.heap.size ≤ B → LogL T (Wd (Wd O B2) B) w (c 4) WW.logs := fun B hB => hlg2.mono (fun _ _ _ k => k.widen hB) (fun _ _ k => k) (fun _ _ _ _ k _ => k)
  refine w_ext ?_
  rintro W0 hW0
  refine' joinU (P := _) (Fc := fun B W u v => Ext W0 W ∧ W0.heap.size ≤ B ∧ Blk W B 8 112 (cf (w8 u v)) ∧ NV (Wd (Wd O B2) B) W u WW.refund ∧ LogL (fun b => ¬ Wd (Wd O B2) B b) (Wd (Wd O B2) B) W v WW.logs ∧ Full v) (fun key => _) _
  rotate_left
  refine wp_region_held_drew (S := fun w' => Ext W0 w') (by kernel_rfl) (Ext.refl _).drew (fun hHeld => ?_)
  have HH : Hid (Ext W0 _) := hHeld
  clear hHeld
  refine wpAnyH_take (i := 0) (v := ?_) rfl (by kernel_rfl) (by kernel_rfl) (by kernel_rfl) (fun _ _ _ h => h) (Or.inl ⟨by rfl, ?_⟩) HH.out ?_
  rotate_left
  · intro w hSw; go_simp; try with_reducible rfl
  change wpAnyH _ _ _ _ _ _ _ (Act.put _ (some 13) _) _
  simp only [Act.put, List.setIfInBounds_toArray, List.set_cons_zero, List.set_cons_succ]
  refine wpAnyH_take (i := 1) (v := ?_) rfl (by kernel_rfl) (by kernel_rfl) (by kernel_rfl) (fun _ _ _ h => h) (Or.inl ⟨by rfl, ?_⟩) HH.out ?_
  rotate_left
  · intro w hSw; go_simp; try with_reducible rfl
  change wpAnyH _ _ _ _ _ _ _ (Act.put _ (some 14) _) _
  simp only [Act.put, List.setIfInBounds_toArray, List.set_cons_zero, List.set_cons_succ]
  refine wpAnyH_take (i := 2) (v := ?_) rfl (by kernel_rfl) (by kernel_rfl) (by kernel_rfl) (fun _ _ _ h => h) (Or.inl ⟨by rfl, ?_⟩) HH.out ?_
  rotate_left
  · intro w hSw; go_simp; try with_reducible rfl
  change wpAnyH _ _ _ _ _ _ _ (Act.put _ (some 15) _) _
  simp only [Act.put, List.setIfInBounds_toArray, List.set_cons_zero, List.set_cons_succ]
  refine wpAnyH_take (i := 3) rfl (by kernel_rfl) (by kernel_rfl) (by kernel_rfl) (fun _ _ _ h => h) (yieldsIf_load1 (by rfl) _ _ rfl _ _ rfl onet96' _ (fun w hSw => (hB.ext (Ext.trans (by (repeat (first | with_reducible exact Ext.refl _ | with_reducible assumption | refine Ext.trans ?_ (by with_reducible assumption) | refine Ext.alloc ?_ _ _ | refine Ext.drew ?_ | refine Ext.drewN ?_ _))) hSw)).cell (by decide))) HH.out ?_
  change wpAnyH _ _ _ _ _ _ _ (Act.put _ (some 16) _) _
  simp only [Act.put, List.setIfInBounds_toArray, List.set_cons_zero, List.set_cons_succ]
  refine wpAnyH_take (i := 5) (v := ?_) rfl (by kernel_rfl) (by kernel_rfl) (by kernel_rfl) (fun _ _ _ h => h) (Or.inl ⟨by rfl, ?_⟩) HH.out ?_
  rotate_left
  · intro w hSw; go_simp; try with_reducible rfl
  change wpAnyH _ _ _ _ _ _ _ (Act.put _ (some 18) _) _
  simp only [Act.put, List.setIfInBounds_toArray, List.set_cons_zero, List.set_cons_succ]
  refine wpAnyH_take (i := 6) (v := ?_) rfl (by kernel_rfl) (by kernel_rfl) (by kernel_rfl) (fun _ _ _ h => h) (Or.inl ⟨by rfl, ?_⟩) HH.out ?_
  rotate_left
  · intro w hSw; go_simp; try with_reducible rfl
  change wpAnyH _ _ _ _ _ _ _ (Act.put _ (some 19) _) _
  simp only [Act.put, List.setIfInBounds_toArray, List.set_cons_zero, List.set_cons_succ]
  refine wpAnyH_take (i := 7) (v := ?_) rfl (by kernel_rfl) (by kernel_rfl) (by kernel_rfl) (fun _ _ _ h => h) (Or.inl ⟨by rfl, ?_⟩) HH.out ?_
  rotate_left
  · intro w hSw; go_simp; try with_reducible rfl
  change wpAnyH _ _ _ _ _ _ _ (Act.put _ (some 20) _) _
  simp only [Act.put, List.setIfInBounds_toArray, List.set_cons_zero, List.set_cons_succ]
  refine wpAnyH_take (i := 8) rfl (by kernel_rfl) (by kernel_rfl) (by kernel_rfl) (fun _ _ _ h => h) (yieldsIf_load1 (by rfl) _ _ rfl _ _ rfl onet44' _ (fun w hSw => (hB.ext (Ext.trans (by (repeat (first | with_reducible exact Ext.refl _ | with_reducible assumption | refine Ext.trans ?_ (by with_reducible assumption) | refine Ext.alloc ?_ _ _ | refine Ext.drew ?_ | refine Ext.drewN ?_ _))) hSw)).cell (by decide))) HH.out ?_
  change wpAnyH _ _ _ _ _ _ _ (Act.put _ (some 21) _) _
  simp only [Act.put, List.setIfInBounds_toArray, List.set_cons_zero, List.set_cons_succ]
  refine wpAnyH_ready (rs := [4, 11]) (by kernel_rfl) (by simp) ?_
  refine (AllReadyH.cons rfl (fun K hK => ?_) (AllReadyH.cons rfl (fun K hK => ?_) AllReadyH.nil))
  go_simp
  go_at_call 226; refine (yNatOf (O := Wd O B2) (hO2.ext (by (repeat (first | with_reducible exact Ext.refl _ | with_reducible assumption | refine Ext.trans ?_ (by with_reducible assumption) | refine Ext.alloc ?_ _ _ | refine Ext.drew ?_ | refine Ext.drewN ?_ _)))) (hlr.ext (by (repeat (first | with_reducible exact Ext.refl _ | with_reducible assumption | refine Ext.trans ?_ (by with_reducible assumption) | refine Ext.alloc ?_ _ _ | refine Ext.drew ?_ | refine Ext.drewN ?_ _))))).mono ?_; rintro e w5 ⟨u, rfl, hu, he⟩
  refine hK.out _ _ ?_ (fun hHeld => ?_)
  · first | exact HH.out.trans hmY | exact HH.out.trans he | exact HH.out
  clear hK K HH
  have HH : Hid (Ext W0 _) := hHeld
  clear hHeld
  refine wpAnyH_ready (rs := [9, 11]) (by kernel_rfl) (by simp) ?_
  refine (AllReadyH.cons rfl (fun K hK => ?_) (AllReadyH.cons rfl (fun K hK => ?_) AllReadyH.nil))
  go_simp
  go_at_call 80; refine (HLG (O := Wd O B2) (hO2.ext (by (repeat (first | with_reducible exact Ext.refl _ | with_reducible assumption | refine Ext.trans ?_ (by with_reducible assumption) | refine Ext.alloc ?_ _ _ | refine Ext.drew ?_ | refine Ext.drewN ?_ _)))) (GRow.ext hlg2 (by (repeat (first | with_reducible exact Ext.refl _ | with_reducible assumption | refine Ext.trans ?_ (by with_reducible assumption) | refine Ext.alloc ?_ _ _ | refine Ext.drew ?_ | refine Ext.drewN ?_ _))) (fun _ _ _ k => k.ext (by (repeat (first | with_reducible exact Ext.refl _ | with_reducible assumption | refine Ext.trans ?_ (by with_reducible assumption) | refine Ext.alloc ?_ _ _ | refine Ext.drew ?_ | refine Ext.drewN ?_ _))))) hll).mono ?_; rintro e w6 ⟨v, rfl, hv, hfv, he⟩
  refine hK.out _ _ ?_ (fun hHeld => ?_)
  · first | exact HH.out.trans hmY | exact HH.out.trans he | exact HH.out
  clear hK K HH
  have HH : Hid (Ext W0 _) := hHeld
  clear hHeld
  refine wpAnyH_take (i := 10) rfl (by kernel_rfl) (by kernel_rfl) (by kernel_rfl) (fun _ _ _ h => h) (yields_build (by rfl) rfl (b99 hu.onec (full_one hv)) (by simp [Act.eval])) HH.out ?_
  change wpAnyH _ _ _ _ _ _ _ (Act.put _ (some 23) _) _
  simp only [Act.put, List.setIfInBounds_toArray, List.set_cons_zero, List.set_cons_succ]
  refine wpAnyH_ready (rs := [11]) (by kernel_rfl) (by simp) ?_
  refine AllReadyH.cons rfl (fun K hK => ?_) AllReadyH.nil
  refine step_any rfl (op_alloc rfl zero99' rfl ?_)
  rintro B3 W3 e3 b3 g3
  refine hK.out _ _ ?_ (fun hHeld => ?_)
  · exact HH.out.trans e3
  clear hK K HH
  have HH : Hid (Ext W0 _) := hHeld
  clear hHeld
  change wpAnyH _ _ _ _ _ _ _ (Act.put _ (some 3) _) _
  simp only [Act.put, List.setIfInBounds_toArray, List.set_cons_zero, List.set_cons_succ]
  refine wpAnyH_ready (rs := [12]) (by kernel_rfl) (by simp) ?_
  refine AllReadyH.cons rfl (fun K hK => ?_) AllReadyH.nil
  refine step_any rfl (op_storeRow rfl rt99 rfl rfl rfl (w8_ones hu.onec (full_one hv)) (b3.ext (by (repeat (first | with_reducible exact Ext.refl _ | with_reducible assumption | refine Ext.trans ?_ (by with_reducible assumption) | refine Ext.alloc ?_ _ _ | refine Ext.drew ?_ | refine Ext.drewN ?_ _)))) (by decide) ?_)
  rintro W9 b9 m9
  refine hK.out _ _ ?_ (fun hHeld => ?_)
  · exact Ext.trans_mod HH.out m9 (fun q hq => by have hq2 : q = B3 := hq; rw [hq2]; exact Nat.le_trans (Ext.size (by (repeat (first | with_reducible exact Ext.refl _ | with_reducible assumption | refine Ext.trans ?_ (by with_reducible assumption) | refine Ext.alloc ?_ _ _ | refine Ext.drew ?_ | refine Ext.drewN ?_ _)))) g3)
  clear hK K HH
  have HH : Hid (Ext W0 _) := hHeld
  clear hHeld
  change wpAnyH _ _ _ _ _ _ _ (Act.put _ none _) _
  simp only [Act.put, List.setIfInBounds_toArray, List.set_cons_zero, List.set_cons_succ]
  refine wpAnyH_done (by kernel_rfl) ?_ _
  exact key B3 W9 u v ⟨HH.out, Nat.le_trans (Ext.size (by (repeat (first | with_reducible exact Ext.refl _ | with_reducible assumption | refine Ext.trans ?_ (by with_reducible assumption) | refine Ext.alloc ?_ _ _ | refine Ext.drew ?_ | refine Ext.drewN ?_ _)))) g3, blk_laid8 b9, ⟨lr, by first | exact NL.keep (hu.ext (by (repeat (first | with_reducible exact Ext.refl _ | with_reducible assumption | refine Ext.trans ?_ (by with_reducible assumption) | refine Ext.alloc ?_ _ _ | refine Ext.drew ?_ | refine Ext.drewN ?_ _)))) m9 (fun x hx q => hx (Or.inr q)) | exact NL.keep ((hu.widen (Nat.le_trans (Ext.size (by (repeat (first | with_reducible exact Ext.refl _ | with_reducible assumption | refine Ext.trans ?_ (by with_reducible assumption) | refine Ext.alloc ?_ _ _ | refine Ext.drew ?_ | refine Ext.drewN ?_ _)))) g3)).ext (by (repeat (first | with_reducible exact Ext.refl _ | with_reducible assumption | refine Ext.trans ?_ (by with_reducible assumption) | refine Ext.alloc ?_ _ _ | refine Ext.drew ?_ | refine Ext.drewN ?_ _)))) m9 (fun x hx q => hx (Or.inr q)), hlr2⟩, by first | exact LogL.keep (GRow.ext hv (by (repeat (first | with_reducible exact Ext.refl _ | with_reducible assumption | refine Ext.trans ?_ (by with_reducible assumption) | refine Ext.alloc ?_ _ _ | refine Ext.drew ?_ | refine Ext.drewN ?_ _))) (fun _ _ _ k => k.ext (by (repeat (first | with_reducible exact Ext.refl _ | with_reducible assumption | refine Ext.trans ?_ (by with_reducible assumption) | refine Ext.alloc ?_ _ _ | refine Ext.drew ?_ | refine Ext.drewN ?_ _))))) m9 (fun x hx q => hx (Or.inr q)) (fun x hx q => hx (Or.inr q)) | exact LogL.keep (GRow.ext (GRow.widen hv (Nat.le_trans (Ext.size (by (repeat (first | with_reducible exact Ext.refl _ | with_reducible assumption | refine Ext.trans ?_ (by with_reducible assumption) | refine Ext.alloc ?_ _ _ | refine Ext.drew ?_ | refine Ext.drewN ?_ _)))) g3) (fun _ _ _ k => LgC.widen k (Nat.le_trans (Ext.size (by (repeat (first | with_reducible exact Ext.refl _ | with_reducible assumption | refine Ext.trans ?_ (by with_reducible assumption) | refine Ext.alloc ?_ _ _ | refine Ext.drew ?_ | refine Ext.drewN ?_ _)))) g3))) (by (repeat (first | with_reducible exact Ext.refl _ | with_reducible assumption | refine Ext.trans ?_ (by with_reducible assumption) | refine Ext.alloc ?_ _ _ | refine Ext.drew ?_ | refine Ext.drewN ?_ _))) (fun _ _ _ k => k.ext (by (repeat (first | with_reducible exact Ext.refl _ | with_reducible assumption | refine Ext.trans ?_ (by with_reducible assumption) | refine Ext.alloc ?_ _ _ | refine Ext.drew ?_ | refine Ext.drewN ?_ _))))) m9 (fun x hx q => hx (Or.inr q)) (fun x hx q => hx (Or.inr q)), hfv⟩
  refine step_any rfl (op_alloc rfl zero99' rfl ?_)
  rintro B3 W3 e3 b3 g3
  refine hK.out _ _ ?_ (fun hHeld => ?_)
  · exact HH.out.trans e3
  clear hK K HH
  have HH : Hid (Ext W0 _) := hHeld
  clear hHeld
  change wpAnyH _ _ _ _ _ _ _ (Act.put _ (some 3) _) _
  simp only [Act.put, List.setIfInBounds_toArray, List.set_cons_zero, List.set_cons_succ]
  refine wpAnyH_ready (rs := [9]) (by kernel_rfl) (by simp) ?_
  refine AllReadyH.cons rfl (fun K hK => ?_) AllReadyH.nil
  go_simp
  go_at_call 80; refine (HLG (O := Wd (Wd O B2) B3) (Small.wd3 hO2 (by (repeat (first | with_reducible exact Ext.refl _ | with_reducible assumption | refine Ext.trans ?_ (by with_reducible assumption) | refine Ext.alloc ?_ _ _ | refine Ext.drew ?_ | refine Ext.drewN ?_ _))) (b3.ext (by (repeat (first | with_reducible exact Ext.refl _ | with_reducible assumption | refine Ext.trans ?_ (by with_reducible assumption) | refine Ext.alloc ?_ _ _ | refine Ext.drew ?_ | refine Ext.drewN ?_ _))))) (GRow.ext (hlg3 B3 (Nat.le_trans (Ext.size (by (repeat (first | with_reducible exact Ext.refl _ | with_reducible assumption | refine Ext.trans ?_ (by with_reducible assumption) | refine Ext.alloc ?_ _ _ | refine Ext.drew ?_ | refine Ext.drewN ?_ _)))) g3)) (by (repeat (first | with_reducible exact Ext.refl _ | with_reducible assumption | refine Ext.trans ?_ (by with_reducible assumption) | refine Ext.alloc ?_ _ _ | refine Ext.drew ?_ | refine Ext.drewN ?_ _))) (fun _ _ _ k => k.ext (by (repeat (first | with_reducible exact Ext.refl _ | with_reducible assumption | refine Ext.trans ?_ (by with_reducible assumption) | refine Ext.alloc ?_ _ _ | refine Ext.drew ?_ | refine Ext.drewN ?_ _))))) hll).mono ?_; rintro e w6 ⟨v, rfl, hv, hfv, he⟩
  refine hK.out _ _ ?_ (fun hHeld => ?_)
  · first | exact HH.out.trans hmY | exact HH.out.trans he | exact HH.out
  clear hK K HH
  have HH : Hid (Ext W0 _) := hHeld
  clear hHeld
  refine wpAnyH_take (i := 10) rfl (by kernel_rfl) (by kernel_rfl) (by kernel_rfl) (fun _ _ _ h => h) (yields_build (by rfl) rfl (b99 hu.onec (full_one hv)) (by simp [Act.eval])) HH.out ?_
  change wpAnyH _ _ _ _ _ _ _ (Act.put _ (some 23) _) _
  simp only [Act.put, List.setIfInBounds_toArray, List.set_cons_zero, List.set_cons_succ]
  refine wpAnyH_ready (rs := [12]) (by kernel_rfl) (by simp) ?_
  refine AllReadyH.cons rfl (fun K hK => ?_) AllReadyH.nil
  refine step_any rfl (op_storeRow rfl rt99 rfl rfl rfl (w8_ones hu.onec (full_one hv)) (b3.ext (by (repeat (first | with_reducible exact Ext.refl _ | with_reducible assumption | refine Ext.trans ?_ (by with_reducible assumption) | refine Ext.alloc ?_ _ _ | refine Ext.drew ?_ | refine Ext.drewN ?_ _)))) (by decide) ?_)
  rintro W9 b9 m9
  refine hK.out _ _ ?_ (fun hHeld => ?_)
  · exact Ext.trans_mod HH.out m9 (fun q hq => by have hq2 : q = B3 := hq; rw [hq2]; exact Nat.le_trans (Ext.size (by (repeat (first | with_reducible exact Ext.refl _ | with_reducible assumption | refine Ext.trans ?_ (by with_reducible assumption) | refine Ext.alloc ?_ _ _ | refine Ext.drew ?_ | refine Ext.drewN ?_ _)))) g3)
  clear hK K HH
  have HH : Hid (Ext W0 _) := hHeld
  clear hHeld
  change wpAnyH _ _ _ _ _ _ _ (Act.put _ none _) _
  simp only [Act.put, List.setIfInBounds_toArray, List.set_cons_zero, List.set_cons_succ]
  refine wpAnyH_done (by kernel_rfl) ?_ _
  exact key B3 W9 u v ⟨HH.out, Nat.le_trans (Ext.size (by (repeat (first | with_reducible exact Ext.refl _ | with_reducible assumption | refine Ext.trans ?_ (by with_reducible assumption) | refine Ext.alloc ?_ _ _ | refine Ext.drew ?_ | refine Ext.drewN ?_ _)))) g3, blk_laid8 b9, ⟨lr, by first | exact NL.keep (hu.ext (by (repeat (first | with_reducible exact Ext.refl _ | with_reducible assumption | refine Ext.trans ?_ (by with_reducible assumption) | refine Ext.alloc ?_ _ _ | refine Ext.drew ?_ | refine Ext.drewN ?_ _)))) m9 (fun x hx q => hx (Or.inr q)) | exact NL.keep ((hu.widen (Nat.le_trans (Ext.size (by (repeat (first | with_reducible exact Ext.refl _ | with_reducible assumption | refine Ext.trans ?_ (by with_reducible assumption) | refine Ext.alloc ?_ _ _ | refine Ext.drew ?_ | refine Ext.drewN ?_ _)))) g3)).ext (by (repeat (first | with_reducible exact Ext.refl _ | with_reducible assumption | refine Ext.trans ?_ (by with_reducible assumption) | refine Ext.alloc ?_ _ _ | refine Ext.drew ?_ | refine Ext.drewN ?_ _)))) m9 (fun x hx q => hx (Or.inr q)), hlr2⟩, by first | exact LogL.keep (GRow.ext hv (by (repeat (first | with_reducible exact Ext.refl _ | with_reducible assumption | refine Ext.trans ?_ (by with_reducible assumption) | refine Ext.alloc ?_ _ _ | refine Ext.drew ?_ | refine Ext.drewN ?_ _))) (fun _ _ _ k => k.ext (by (repeat (first | with_reducible exact Ext.refl _ | with_reducible assumption | refine Ext.trans ?_ (by with_reducible assumption) | refine Ext.alloc ?_ _ _ | refine Ext.drew ?_ | refine Ext.drewN ?_ _))))) m9 (fun x hx q => hx (Or.inr q)) (fun x hx q => hx (Or.inr q)) | exact LogL.keep (GRow.ext (GRow.widen hv (Nat.le_trans (Ext.size (by (repeat (first | with_reducible exact Ext.refl _ | with_reducible assumption | refine Ext.trans ?_ (by with_reducible assumption) | refine Ext.alloc ?_ _ _ | refine Ext.drew ?_ | refine Ext.drewN ?_ _)))) g3) (fun _ _ _ k => LgC.widen k (Nat.le_trans (Ext.size (by (repeat (first | with_reducible exact Ext.refl _ | with_reducible assumption | refine Ext.trans ?_ (by with_reducible assumption) | refine Ext.alloc ?_ _ _ | refine Ext.drew ?_ | refine Ext.drewN ?_ _)))) g3))) (by (repeat (first | with_reducible exact Ext.refl _ | with_reducible assumption | refine Ext.trans ?_ (by with_reducible assumption) | refine Ext.alloc ?_ _ _ | refine Ext.drew ?_ | refine Ext.drewN ?_ _))) (fun _ _ _ k => k.ext (by (repeat (first | with_reducible exact Ext.refl _ | with_reducible assumption | refine Ext.trans ?_ (by with_reducible assumption) | refine Ext.alloc ?_ _ _ | refine Ext.drew ?_ | refine Ext.drewN ?_ _))))) m9 (fun x hx q => hx (Or.inr q)) (fun x hx q => hx (Or.inr q)), hfv⟩
  refine step_any rfl (op_alloc rfl zero99' rfl ?_)
  rintro B3 W3 e3 b3 g3
  refine hK.out _ _ ?_ (fun hHeld => ?_)
  · exact HH.out.trans e3
  clear hK K HH
  have HH : Hid (Ext W0 _) := hHeld
  clear hHeld
  change wpAnyH _ _ _ _ _ _ _ (Act.put _ (some 3) _) _
  simp only [Act.put, List.setIfInBounds_toArray, List.set_cons_zero, List.set_cons_succ]
  refine wpAnyH_ready (rs := [4]) (by kernel_rfl) (by simp) ?_
  refine AllReadyH.cons rfl (fun K hK => ?_) AllReadyH.nil
  go_simp
  go_at_call 226; refine (yNatOf (O := Wd (Wd O B2) B3) (Small.wd3 hO2 (by (repeat (first | with_reducible exact Ext.refl _ | with_reducible assumption | refine Ext.trans ?_ (by with_reducible assumption) | refine Ext.alloc ?_ _ _ | refine Ext.drew ?_ | refine Ext.drewN ?_ _))) b3) (hlr.ext (by (repeat (first | with_reducible exact Ext.refl _ | with_reducible assumption | refine Ext.trans ?_ (by with_reducible assumption) | refine Ext.alloc ?_ _ _ | refine Ext.drew ?_ | refine Ext.drewN ?_ _))))).mono ?_; rintro e w5 ⟨u, rfl, hu, he⟩
  refine hK.out _ _ ?_ (fun hHeld => ?_)
  · first | exact HH.out.trans hmY | exact HH.out.trans he | exact HH.out
  clear hK K HH
  have HH : Hid (Ext W0 _) := hHeld
  clear hHeld
  refine wpAnyH_ready (rs := [9]) (by kernel_rfl) (by simp) ?_
  refine AllReadyH.cons rfl (fun K hK => ?_) AllReadyH.nil
  go_simp
  go_at_call 80; refine (HLG (O := Wd (Wd O B2) B3) (Small.wd3 hO2 (by (repeat (first | with_reducible exact Ext.refl _ | with_reducible assumption | refine Ext.trans ?_ (by with_reducible assumption) | refine Ext.alloc ?_ _ _ | refine Ext.drew ?_ | refine Ext.drewN ?_ _))) (b3.ext (by (repeat (first | with_reducible exact Ext.refl _ | with_reducible assumption | refine Ext.trans ?_ (by with_reducible assumption) | refine Ext.alloc ?_ _ _ | refine Ext.drew ?_ | refine Ext.drewN ?_ _))))) (GRow.ext (hlg3 B3 (Nat.le_trans (Ext.size (by (repeat (first | with_reducible exact Ext.refl _ | with_reducible assumption | refine Ext.trans ?_ (by with_reducible assumption) | refine Ext.alloc ?_ _ _ | refine Ext.drew ?_ | refine Ext.drewN ?_ _)))) g3)) (by (repeat (first | with_reducible exact Ext.refl _ | with_reducible assumption | refine Ext.trans ?_ (by with_reducible assumption) | refine Ext.alloc ?_ _ _ | refine Ext.drew ?_ | refine Ext.drewN ?_ _))) (fun _ _ _ k => k.ext (by (repeat (first | with_reducible exact Ext.refl _ | with_reducible assumption | refine Ext.trans ?_ (by with_reducible assumption) | refine Ext.alloc ?_ _ _ | refine Ext.drew ?_ | refine Ext.drewN ?_ _))))) hll).mono ?_; rintro e w6 ⟨v, rfl, hv, hfv, he⟩
  refine hK.out _ _ ?_ (fun hHeld => ?_)
  · first | exact HH.out.trans hmY | exact HH.out.trans he | exact HH.out
  clear hK K HH
  have HH : Hid (Ext W0 _) := hHeld
  clear hHeld
  refine wpAnyH_take (i := 10) rfl (by kernel_rfl) (by kernel_rfl) (by kernel_rfl) (fun _ _ _ h => h) (yields_build (by rfl) rfl (b99 hu.onec (full_one hv)) (by simp [Act.eval])) HH.out ?_
  change wpAnyH _ _ _ _ _ _ _ (Act.put _ (some 23) _) _
  simp only [Act.put, List.setIfInBounds_toArray, List.set_cons_zero, List.set_cons_succ]
  refine wpAnyH_ready (rs := [12]) (by kernel_rfl) (by simp) ?_
  refine AllReadyH.cons rfl (fun K hK => ?_) AllReadyH.nil
  refine step_any rfl (op_storeRow rfl rt99 rfl rfl rfl (w8_ones hu.onec (full_one hv)) (b3.ext (by (repeat (first | with_reducible exact Ext.refl _ | with_reducible assumption | refine Ext.trans ?_ (by with_reducible assumption) | refine Ext.alloc ?_ _ _ | refine Ext.drew ?_ | refine Ext.drewN ?_ _)))) (by decide) ?_)
  rintro W9 b9 m9
  refine hK.out _ _ ?_ (fun hHeld => ?_)
  · exact Ext.trans_mod HH.out m9 (fun q hq => by have hq2 : q = B3 := hq; rw [hq2]; exact Nat.le_trans (Ext.size (by (repeat (first | with_reducible exact Ext.refl _ | with_reducible assumption | refine Ext.trans ?_ (by with_reducible assumption) | refine Ext.alloc ?_ _ _ | refine Ext.drew ?_ | refine Ext.drewN ?_ _)))) g3)
  clear hK K HH
  have HH : Hid (Ext W0 _) := hHeld
  clear hHeld
  change wpAnyH _ _ _ _ _ _ _ (Act.put _ none _) _
  simp only [Act.put, List.setIfInBounds_toArray, List.set_cons_zero, List.set_cons_succ]
  refine wpAnyH_done (by kernel_rfl) ?_ _
  exact key B3 W9 u v ⟨HH.out, Nat.le_trans (Ext.size (by (repeat (first | with_reducible exact Ext.refl _ | with_reducible assumption | refine Ext.trans ?_ (by with_reducible assumption) | refine Ext.alloc ?_ _ _ | refine Ext.drew ?_ | refine Ext.drewN ?_ _)))) g3, blk_laid8 b9, ⟨lr, by first | exact NL.keep (hu.ext (by (repeat (first | with_reducible exact Ext.refl _ | with_reducible assumption | refine Ext.trans ?_ (by with_reducible assumption) | refine Ext.alloc ?_ _ _ | refine Ext.drew ?_ | refine Ext.drewN ?_ _)))) m9 (fun x hx q => hx (Or.inr q)) | exact NL.keep ((hu.widen (Nat.le_trans (Ext.size (by (repeat (first | with_reducible exact Ext.refl _ | with_reducible assumption | refine Ext.trans ?_ (by with_reducible assumption) | refine Ext.alloc ?_ _ _ | refine Ext.drew ?_ | refine Ext.drewN ?_ _)))) g3)).ext (by (repeat (first | with_reducible exact Ext.refl _ | with_reducible assumption | refine Ext.trans ?_ (by with_reducible assumption) | refine Ext.alloc ?_ _ _ | refine Ext.drew ?_ | refine Ext.drewN ?_ _)))) m9 (fun x hx q => hx (Or.inr q)), hlr2⟩, by first | exact LogL.keep (GRow.ext hv (by (repeat (first | with_reducible exact Ext.refl _ | with_reducible assumption | refine Ext.trans ?_ (by with_reducible assumption) | refine Ext.alloc ?_ _ _ | refine Ext.drew ?_ | refine Ext.drewN ?_ _))) (fun _ _ _ k => k.ext (by (repeat (first | with_reducible exact Ext.refl _ | with_reducible assumption | refine Ext.trans ?_ (by with_reducible assumption) | refine Ext.alloc ?_ _ _ | refine Ext.drew ?_ | refine Ext.drewN ?_ _))))) m9 (fun x hx q => hx (Or.inr q)) (fun x hx q => hx (Or.inr q)) | exact LogL.keep (GRow.ext (GRow.widen hv (Nat.le_trans (Ext.size (by (repeat (first | with_reducible exact Ext.refl _ | with_reducible assumption | refine Ext.trans ?_ (by with_reducible assumption) | refine Ext.alloc ?_ _ _ | refine Ext.drew ?_ | refine Ext.drewN ?_ _)))) g3) (fun _ _ _ k => LgC.widen k (Nat.le_trans (Ext.size (by (repeat (first | with_reducible exact Ext.refl _ | with_reducible assumption | refine Ext.trans ?_ (by with_reducible assumption) | refine Ext.alloc ?_ _ _ | refine Ext.drew ?_ | refine Ext.drewN ?_ _)))) g3))) (by (repeat (first | with_reducible exact Ext.refl _ | with_reducible assumption | refine Ext.trans ?_ (by with_reducible assumption) | refine Ext.alloc ?_ _ _ | refine Ext.drew ?_ | refine Ext.drewN ?_ _))) (fun _ _ _ k => k.ext (by (repeat (first | with_reducible exact Ext.refl _ | with_reducible assumption | refine Ext.trans ?_ (by with_reducible assumption) | refine Ext.alloc ?_ _ _ | refine Ext.drew ?_ | refine Ext.drewN ?_ _))))) m9 (fun x hx q => hx (Or.inr q)) (fun x hx q => hx (Or.inr q)), hfv⟩
  rintro B3 W3 u v ⟨e3, g3, b3, hu, hv, hfv⟩
  have he3 : Ext w W3 := by (repeat (first | with_reducible exact Ext.refl _ | with_reducible assumption | refine Ext.trans ?_ (by with_reducible assumption) | refine Ext.alloc ?_ _ _ | refine Ext.drew ?_ | refine Ext.drewN ?_ _))
  have g3w : w.heap.size ≤ B3 := Nat.le_trans (Ext.size (by (repeat (first | with_reducible exact Ext.refl _ | with_reducible assumption | refine Ext.trans ?_ (by with_reducible assumption) | refine Ext.alloc ?_ _ _ | refine Ext.drew ?_ | refine Ext.drewN ?_ _)))) g3
  have hB32 : B3 ≠ B2 := fun q => by have := b2.lt; have := hW0.size; omega
  have b2' : Blk W3 B2 8 112 _ := b2.ext (hW0.trans e3)
  have hO3 : Small (Wd (Wd O B2) B3) W3 := Small.wd3 hO2 (hW0.trans e3) b3
  clear e3 hlg2 hlg3 hlr hlr2 hO2 e2 b2
  have hW3 : YWC (Wd (Wd O B2) B3) w c 0 WW := hwc.reo (fun b hb q => by
    rcases q with (q | q) | q
    · exact q
    · omega
    · omega)
  obtain ⟨base, cap, hc0, hbn, hsrc⟩ := grow_split hwc.accts
  have hc0' : c 0 = .slice base WW.accts.length cap := hc0
  have hnil := fun W => run_neq_slice_nil (P := Hvah.prog) W 106 121 base WW.accts.length cap under93'
  go_upto_if 28 with ((with_reducible (refine Veil.out ?_; apply wl_loadB onet93')); (case hx => rfl); (case hB => exact hB.ext (by (repeat (first | with_reducible exact Ext.refl _ | with_reducible assumption | refine Ext.trans ?_ (by with_reducible assumption) | refine Ext.alloc ?_ _ _ | refine Ext.drew ?_ | refine Ext.drewN ?_ _)))); (case hi => decide))
  go_cut [] (fun wx => ∃ c3, Blk wx B3 8 112 c3 ∧ Hid (∀ i, i ≠ 0 → c3 i = cf (w8 u v) i) ∧ Mod (· = B3) W3 wx ∧ Laid 121 24 W3.heap.size (fun B cc o x => YAC (Wd (Wd (Wd O B2) B3) B) wx cc o x) wx (c3 0) WW.accts 0)
  case first =>
    cases base with
    | none =>
      have hem := hbn rfl
      go_wp2
      go_meet
      case rel => exact ⟨_, b3, (fun i hi => rfl : ∀ i, i ≠ 0 → cf (w8 u v) i = cf (w8 u v) i), Mod.refl _ _, Or.inl ⟨hem, rfl⟩⟩
    | some ad =>
      go_wp2_with (first | ((with_reducible (refine Veil.out ?_; apply wl_loadB onet93')); (case hx => rfl); (case hB => exact hB.ext (by (repeat (first | with_reducible exact Ext.refl _ | with_reducible assumption | refine Ext.trans ?_ (by with_reducible assumption) | refine Ext.alloc ?_ _ _ | refine Ext.drew ?_ | refine Ext.drewN ?_ _)))); (case hi => decide)) | ((with_reducible (refine Veil.out ?_; apply wl_makeR under93' el108 WW.accts.length)); (case hl => rfl); (case hc => rfl); (case hn => exact hna); rintro BA W4 e4 b4 g4) | ((with_reducible (refine Veil.out ?_; apply wl_storeC onet93')); (case hx => rfl); (case hy => rfl); (case h1 => rfl); (case hB => exact b3.ext (by (repeat (first | with_reducible exact Ext.refl _ | with_reducible assumption | refine Ext.trans ?_ (by with_reducible assumption) | refine Ext.alloc ?_ _ _ | refine Ext.drew ?_ | refine Ext.drewN ?_ _)))); (case hi => decide); rintro W5 b5 m5))
      go_meet
      case rel => exact ⟨_, b5, (fun i hi => updv_ne _ _ hi : ∀ i, i ≠ 0 → updv (cf (w8 u v)) 0 _ i = cf (w8 u v) i), (e4.mod _).trans m5, Or.inr ⟨BA, _, updv_same _ _ _, b4.mod m5 (fun q => by have := b3.lt; omega), g4, fun k hk => absurd hk (Nat.not_lt_zero _)⟩⟩
  case rest =>
  obtain ⟨c3, b3', hc3, m3, hlaid⟩ := hcut
  clear hnil b3
  have hLE : ∀ W, Mod (· = B3) W3 W → Ext w W := fun W hW => Ext.trans_mod he3 hW (fun q hq => by have hq2 : q = B3 := hq; rw [hq2]; exact g3w)
  have hO3' : ∀ W, Mod (· = B3) W3 W → Small (Wd (Wd O B2) B3) W := fun W hW b hb => Nat.lt_of_lt_of_le (hO3 b hb) hW.size
  go_upto_block 0 with ((with_reducible (refine Veil.out ?_; apply wl_loadB onet93')); (case hx => rfl); (case hB => exact hB.ext (Ext.trans_mod he3 m3 (fun q hq => by have hq2 : q = B3 := hq; rw [hq2]; exact g3w))); (case hi => decide))
  go_cut [] (fun wx => ∃ c3, Blk wx B3 8 112 c3 ∧ Hid (∀ i, i ≠ 0 → c3 i = cf (w8 u v) i) ∧ Mod (· = B3) W3 wx ∧ AccL (Wd (Wd O B2) B3) wx (c3 0) WW.accts)
  case first =>
    go_upto_region 5 with (fail)
    try simp only [Act.put]
    go_loopw [41] (fun iv wr => ∃ (i : Nat), iv = .int .i64 (i : Nat) ∧ i ≤ WW.accts.length ∧ Blk wr B3 8 112 c3 ∧ Mod (· = B3) W3 wr ∧ Hid (Laid 121 24 W3.heap.size (fun B cc o x => YAC (Wd (Wd (Wd O B2) B3) B) wr cc o x) wr (c3 0) WW.accts i)) (fun iv _ => WW.accts.length - (intOf iv).toNat)
    case atStart => exact ⟨0, rfl, Nat.zero_le _, b3', m3, hlaid⟩
    case round =>
      clear hlaid b3' m3
      obtain ⟨i, rfl, hi, b3r, m3r, hlaid⟩ := hrel
      have hEr := hLE _ m3r
      rcases Nat.lt_or_ge i WW.accts.length with hlt | hge
      · have z1 : (i : Int) < WW.accts.length := by omega
        obtain ⟨b0, cs, rfl, hb0, hcap, hrow⟩ := hsrc (fun q => by rw [q] at hlt; cases hlt)
        rcases hlaid.out with ⟨q, _⟩ | ⟨BA, cA, hvA, bA, gA, hdone⟩
        · rw [q] at hlt; cases hlt
        clear hlaid
        have hri := hrow i hlt
        obtain ⟨x, hx⟩ : ∃ x, Hid (WW.accts[i] = x) := ⟨WW.accts[i], rfl⟩
        rw [hx.out] at hri
        have hxm : x.slots.length ≤ 1000000 := Nat.le_trans (by rw [← hx.out]; exact hsl _ (List.getElem_mem hlt)) (by decide : 90000 ≤ 1000000)
        have hones : Ones (rowOf cs (i * 24) 24) := ones_of (fun q hq => by
          rw [rowOf_size] at hq
          rw [cf_rowOf _ _ _ hq]
          rcases (show q < 20 ∨ q = 20 ∨ q = 21 ∨ q = 22 ∨ q = 23 by omega) with h | rfl | rfl | rfl | rfl
          · exact aat_onec hri.addr hri.parts.aLt q h
          · exact hri.parts.nonce.one
          · exact hri.parts.bal.one
          · exact hri.parts.code.onec
          · exact grow_one hri.parts.slots)
        have j1 : IntKind.i64.wrap ((i : Int) + 1) = ((i + 1 : Nat) : Int) := by rw [IntKind.wrap_i64]; omega
        obtain ⟨i1, hi1⟩ : ∃ z : Nat, Hid ((i + 1 : Nat) = z) := ⟨_, rfl⟩
        rw [hi1.out] at j1
        have hlen := hlt
        go_upto_region 7 with (first | ((with_reducible (refine Veil.out ?_; apply wl_loadRow rt108)); (case hx => rfl); (case hB => exact hb0.ext hEr); (case hi => omega)) | ((with_reducible (refine Veil.out ?_; apply wl_allocB zero108')); (case hn => exact acR_size (by decide) _ _ _ _); rintro B5 W5 e5 b5 g5) | ((with_reducible (refine Veil.out ?_; apply wl_storeRow rt108)); (case hx => rfl); (case hy => rfl); (case hr => exact rowOf_size _ _ _); (case h1 => exact hones); (case hB => exact b5); (case hi => decide); rintro W6 b6 m6))
        have hE6 : Ext wr W6 := Ext.trans_mod e5 m6 (fun q hq => by have hq2 : q = B5 := hq; rw [hq2]; exact g5)
        obtain ⟨cL, hcL⟩ : ∃ z, Hid (layv (cf (acR 0 (.slice none 0 0) (.slice none 0 0) (.slice none 0 0) (.slice none 0 0))) 0 (rowOf cs (i * 24) 24) = z) := ⟨_, rfl⟩
        have hLc : ∀ j, j < 24 → cL j = cs (i * 24 + j) := fun j hj => by
          rw [← hcL.out, layv_atc _ _ _ _ (Nat.zero_le _) (by rw [rowOf_size]; omega), Nat.sub_zero, cf_rowOf _ _ _ hj]
        have bL : Blk W6 B5 24 121 cL := by rw [← hcL.out]; exact b6
        have hLa : AAt cL 0 x.addr := fun j u hu => by
          have hj := (Array.getElem?_eq_some_iff.1 hu).1
          rw [av_size hri.parts.aLt] at hj
          rw [Nat.zero_add, hLc j (by omega)]
          exact hri.addr j u hu
        have hL20 : cL 20 = cs (i * 24 + 20) := hLc 20 (by decide)
        have hL21 : cL 21 = cs (i * 24 + 21) := hLc 21 (by decide)
        have hL22 : cL 22 = cs (i * 24 + 22) := hLc 22 (by decide)
        obtain ⟨ln, hln, hln2⟩ := hri.parts.nonce
        obtain ⟨lb, hlb, hlb2⟩ := hri.parts.bal
        have hlc := hri.parts.code
        obtain ⟨base2, cap2, hs23, hbn2, hsrc2⟩ := grow_split hri.parts.slots
        have hL23 : cL 23 = .slice base2 x.slots.length cap2 := (hLc 23 (by decide)).trans hs23
        have hax := hri.parts.aLt
        have hOA : Small (Wd (Wd (Wd O B2) B3) BA) W6 := Small.wd3 (hO3' _ m3r) hE6 (bA.ext hE6)
        clear hcL b6 hones hs23 e5 m6
        generalize cs (i * 24 + 20) = s20 at *
        generalize cs (i * 24 + 21) = s21 at *
        generalize cs (i * 24 + 22) = s22 at *
        refine w_ext ?_
        rintro W0 hW0
        refine' joinU3 (P := _) (Fc := fun B W u1 u2 u3 => Ext W0 W ∧ W0.heap.size ≤ B ∧ Blk W B 24 121 (cf (acR x.addr u1 u2 u3 (.slice none 0 0))) ∧ NV (Wd (Wd (Wd (Wd O B2) B3) BA) B) W u1 x.nonce ∧ NV (Wd (Wd (Wd (Wd O B2) B3) BA) B) W u2 x.bal ∧ NL (Wd (Wd (Wd (Wd O B2) B3) BA) B) W u3 x.code) (fun key => _) _
        rotate_left
        refine wp_region_held_drew (S := fun w' => Ext W0 w') (by kernel_rfl) (Ext.refl _).drew (fun hHeld => ?_)
        have HH : Hid (Ext W0 _) := hHeld
        clear hHeld
        refine wpAnyH_take (i := 0) (v := ?_) rfl (by kernel_rfl) (by kernel_rfl) (by kernel_rfl) (fun _ _ _ h => h) (Or.inl ⟨by rfl, ?_⟩) HH.out ?_
        rotate_left
        · intro w hSw; go_simp; try with_reducible rfl
        change wpAnyH _ _ _ _ _ _ _ (Act.put _ (some 46) _) _
        simp only [Act.put, List.setIfInBounds_toArray, List.set_cons_zero, List.set_cons_succ]
        refine wpAnyH_take (i := 1) rfl (by kernel_rfl) (by kernel_rfl) (by kernel_rfl) (fun _ _ _ h => h) (yields_A (by rfl) rfl rfl (fun W hW => bL.ext (Ext.trans (by (repeat (first | with_reducible exact Ext.refl _ | with_reducible assumption | refine Ext.trans ?_ (by with_reducible assumption) | refine Ext.alloc ?_ _ _ | refine Ext.drew ?_ | refine Ext.drewN ?_ _))) hW)) hLa hri.parts.aLt (by decide)) HH.out ?_
        change wpAnyH _ _ _ _ _ _ _ (Act.put _ (some 47) _) _
        simp only [Act.put, List.setIfInBounds_toArray, List.set_cons_zero, List.set_cons_succ]
        refine wpAnyH_take (i := 2) (v := ?_) rfl (by kernel_rfl) (by kernel_rfl) (by kernel_rfl) (fun _ _ _ h => h) (Or.inl ⟨by rfl, ?_⟩) HH.out ?_
        rotate_left
        · intro w hSw; go_simp; try with_reducible rfl
        change wpAnyH _ _ _ _ _ _ _ (Act.put _ (some 48) _) _
        simp only [Act.put, List.setIfInBounds_toArray, List.set_cons_zero, List.set_cons_succ]
        refine wpAnyH_take (i := 3) rfl (by kernel_rfl) (by kernel_rfl) (by kernel_rfl) (fun _ _ _ h => h) (yieldsIf_load1 (by rfl) _ _ rfl _ _ rfl onet96' _ (fun w hSw => by rw [(bL.ext (Ext.trans (by (repeat (first | with_reducible exact Ext.refl _ | with_reducible assumption | refine Ext.trans ?_ (by with_reducible assumption) | refine Ext.alloc ?_ _ _ | refine Ext.drew ?_ | refine Ext.drewN ?_ _))) hSw)).cell (by decide), hL20])) HH.out ?_
        change wpAnyH _ _ _ _ _ _ _ (Act.put _ (some 49) _) _
        simp only [Act.put, List.setIfInBounds_toArray, List.set_cons_zero, List.set_cons_succ]
        refine wpAnyH_take (i := 5) (v := ?_) rfl (by kernel_rfl) (by kernel_rfl) (by kernel_rfl) (fun _ _ _ h => h) (Or.inl ⟨by rfl, ?_⟩) HH.out ?_
        rotate_left
        · intro w hSw; go_simp; try with_reducible rfl
        change wpAnyH _ _ _ _ _ _ _ (Act.put _ (some 51) _) _
        simp only [Act.put, List.setIfInBounds_toArray, List.set_cons_zero, List.set_cons_succ]
        refine wpAnyH_take (i := 6) rfl (by kernel_rfl) (by kernel_rfl) (by kernel_rfl) (fun _ _ _ h => h) (yieldsIf_load1 (by rfl) _ _ rfl _ _ rfl onet96' _ (fun w hSw => by rw [(bL.ext (Ext.trans (by (repeat (first | with_reducible exact Ext.refl _ | with_reducible assumption | refine Ext.trans ?_ (by with_reducible assumption) | refine Ext.alloc ?_ _ _ | refine Ext.drew ?_ | refine Ext.drewN ?_ _))) hSw)).cell (by decide), hL21])) HH.out ?_
        change wpAnyH _ _ _ _ _ _ _ (Act.put _ (some 52) _) _
        simp only [Act.put, List.setIfInBounds_toArray, List.set_cons_zero, List.set_cons_succ]
        refine wpAnyH_take (i := 8) (v := ?_) rfl (by kernel_rfl) (by kernel_rfl) (by kernel_rfl) (fun _ _ _ h => h) (Or.inl ⟨by rfl, ?_⟩) HH.out ?_
        rotate_left
        · intro w hSw; go_simp; try with_reducible rfl
        change wpAnyH _ _ _ _ _ _ _ (Act.put _ (some 54) _) _
        simp only [Act.put, List.setIfInBounds_toArray, List.set_cons_zero, List.set_cons_succ]
        refine wpAnyH_take (i := 9) rfl (by kernel_rfl) (by kernel_rfl) (by kernel_rfl) (fun _ _ _ h => h) (yieldsIf_load1 (by rfl) _ _ rfl _ _ rfl onet32' _ (fun w hSw => by rw [(bL.ext (Ext.trans (by (repeat (first | with_reducible exact Ext.refl _ | with_reducible assumption | refine Ext.trans ?_ (by with_reducible assumption) | refine Ext.alloc ?_ _ _ | refine Ext.drew ?_ | refine Ext.drewN ?_ _))) hSw)).cell (by decide), hL22])) HH.out ?_
        change wpAnyH _ _ _ _ _ _ _ (Act.put _ (some 55) _) _
        simp only [Act.put, List.setIfInBounds_toArray, List.set_cons_zero, List.set_cons_succ]
        refine wpAnyH_ready (rs := [4, 12]) (by kernel_rfl) (by simp) ?_
        refine (AllReadyH.cons rfl (fun K hK => ?_) (AllReadyH.cons rfl (fun K hK => ?_) AllReadyH.nil))
        go_simp
        go_at_call 226; refine (yNatOf (O := (Wd (Wd (Wd O B2) B3) BA)) (hOA.ext (by (repeat (first | with_reducible exact Ext.refl _ | with_reducible assumption | refine Ext.trans ?_ (by with_reducible assumption) | refine Ext.alloc ?_ _ _ | refine Ext.drew ?_ | refine Ext.drewN ?_ _)))) (hln.ext (by (repeat (first | with_reducible exact Ext.refl _ | with_reducible assumption | refine Ext.trans ?_ (by with_reducible assumption) | refine Ext.alloc ?_ _ _ | refine Ext.drew ?_ | refine Ext.drewN ?_ _))))).mono ?_; rintro e w5 ⟨u1, rfl, hu1, he⟩
        refine hK.out _ _ ?_ (fun hHeld => ?_)
        · first | exact HH.out.trans hmY | exact HH.out.trans he | exact HH.out
        clear hK K HH
        have HH : Hid (Ext W0 _) := hHeld
        clear hHeld
        refine wpAnyH_ready (rs := [7, 12]) (by kernel_rfl) (by simp) ?_
        refine (AllReadyH.cons rfl (fun K hK => ?_) (AllReadyH.cons rfl (fun K hK => ?_) AllReadyH.nil))
        go_simp
        go_at_call 226; refine (yNatOf (O := (Wd (Wd (Wd O B2) B3) BA)) (hOA.ext (by (repeat (first | with_reducible exact Ext.refl _ | with_reducible assumption | refine Ext.trans ?_ (by with_reducible assumption) | refine Ext.alloc ?_ _ _ | refine Ext.drew ?_ | refine Ext.drewN ?_ _)))) (hlb.ext (by (repeat (first | with_reducible exact Ext.refl _ | with_reducible assumption | refine Ext.trans ?_ (by with_reducible assumption) | refine Ext.alloc ?_ _ _ | refine Ext.drew ?_ | refine Ext.drewN ?_ _))))).mono ?_; rintro e w6 ⟨u2, rfl, hu2, he⟩
        refine hK.out _ _ ?_ (fun hHeld => ?_)
        · first | exact HH.out.trans hmY | exact HH.out.trans he | exact HH.out
        clear hK K HH
        have HH : Hid (Ext W0 _) := hHeld
        clear hHeld
        refine wpAnyH_ready (rs := [10, 12]) (by kernel_rfl) (by simp) ?_
        refine (AllReadyH.cons rfl (fun K hK => ?_) (AllReadyH.cons rfl (fun K hK => ?_) AllReadyH.nil))
        go_simp
        go_at_call 36; refine (yBytesOf2 (O := (Wd (Wd (Wd O B2) B3) BA)) (hOA.ext (by (repeat (first | with_reducible exact Ext.refl _ | with_reducible assumption | refine Ext.trans ?_ (by with_reducible assumption) | refine Ext.alloc ?_ _ _ | refine Ext.drew ?_ | refine Ext.drewN ?_ _)))) (hlc.ext (by (repeat (first | with_reducible exact Ext.refl _ | with_reducible assumption | refine Ext.trans ?_ (by with_reducible assumption) | refine Ext.alloc ?_ _ _ | refine Ext.drew ?_ | refine Ext.drewN ?_ _))))).mono ?_; rintro e w7 ⟨u3, rfl, hu3, he⟩
        refine hK.out _ _ ?_ (fun hHeld => ?_)
        · first | exact HH.out.trans hmY | exact HH.out.trans he | exact HH.out
        clear hK K HH
        have HH : Hid (Ext W0 _) := hHeld
        clear hHeld
        refine wpAnyH_take (i := 11) rfl (by kernel_rfl) (by kernel_rfl) (by kernel_rfl) (fun _ _ _ h => h) (yields_build (by rfl) rfl (b108 hri.parts.aLt hu1.onec hu2.onec hu3.onec) (by simp [Act.eval])) HH.out ?_
        change wpAnyH _ _ _ _ _ _ _ (Act.put _ (some 57) _) _
        simp only [Act.put, List.setIfInBounds_toArray, List.set_cons_zero, List.set_cons_succ]
        refine wpAnyH_ready (rs := [12]) (by kernel_rfl) (by simp) ?_
        refine AllReadyH.cons rfl (fun K hK => ?_) AllReadyH.nil
        refine step_any rfl (op_alloc rfl zero108' (acR_size (by decide) _ _ _ _) ?_)
        rintro B6 W7 e7 b7 g7
        refine hK.out _ _ ?_ (fun hHeld => ?_)
        · exact HH.out.trans e7
        clear hK K HH
        have HH : Hid (Ext W0 _) := hHeld
        clear hHeld
        change wpAnyH _ _ _ _ _ _ _ (Act.put _ (some 6) _) _
        simp only [Act.put, List.setIfInBounds_toArray, List.set_cons_zero, List.set_cons_succ]
        refine wpAnyH_ready (rs := [13]) (by kernel_rfl) (by simp) ?_
        refine AllReadyH.cons rfl (fun K hK => ?_) AllReadyH.nil
        refine step_any rfl (op_storeRow rfl rt108 rfl rfl (acR_size hri.parts.aLt _ _ _ _) (acR_one hu1.onec hu2.onec hu3.onec rfl) (b7.ext (by (repeat (first | with_reducible exact Ext.refl _ | with_reducible assumption | refine Ext.trans ?_ (by with_reducible assumption) | refine Ext.alloc ?_ _ _ | refine Ext.drew ?_ | refine Ext.drewN ?_ _)))) (by decide) ?_)
        rintro W9 b9 m9
        refine hK.out _ _ ?_ (fun hHeld => ?_)
        · exact Ext.trans_mod HH.out m9 (fun q hq => by have hq2 : q = B6 := hq; rw [hq2]; exact Nat.le_trans (Ext.size (by (repeat (first | with_reducible exact Ext.refl _ | with_reducible assumption | refine Ext.trans ?_ (by with_reducible assumption) | refine Ext.alloc ?_ _ _ | refine Ext.drew ?_ | refine Ext.drewN ?_ _)))) g7)
        clear hK K HH
        have HH : Hid (Ext W0 _) := hHeld
        clear hHeld
        change wpAnyH _ _ _ _ _ _ _ (Act.put _ none _) _
        simp only [Act.put, List.setIfInBounds_toArray, List.set_cons_zero, List.set_cons_succ]
        refine wpAnyH_done (by kernel_rfl) ?_ _
        exact key B6 W9 u1 u2 u3 ⟨HH.out, Nat.le_trans (Ext.size (by (repeat (first | with_reducible exact Ext.refl _ | with_reducible assumption | refine Ext.trans ?_ (by with_reducible assumption) | refine Ext.alloc ?_ _ _ | refine Ext.drew ?_ | refine Ext.drewN ?_ _)))) g7, blk_laid24 (acR_size hri.parts.aLt _ _ _ _) b9, ⟨ln, (by first | exact NL.keep (hu1.ext (by (repeat (first | with_reducible exact Ext.refl _ | with_reducible assumption | refine Ext.trans ?_ (by with_reducible assumption) | refine Ext.alloc ?_ _ _ | refine Ext.drew ?_ | refine Ext.drewN ?_ _)))) m9 (fun x hx q => hx (Or.inr q)) | exact NL.keep ((hu1.widen (Nat.le_trans (Ext.size (by (repeat (first | with_reducible exact Ext.refl _ | with_reducible assumption | refine Ext.trans ?_ (by with_reducible assumption) | refine Ext.alloc ?_ _ _ | refine Ext.drew ?_ | refine Ext.drewN ?_ _)))) g7)).ext (by (repeat (first | with_reducible exact Ext.refl _ | with_reducible assumption | refine Ext.trans ?_ (by with_reducible assumption) | refine Ext.alloc ?_ _ _ | refine Ext.drew ?_ | refine Ext.drewN ?_ _)))) m9 (fun x hx q => hx (Or.inr q))), hln2⟩, ⟨lb, (by first | exact NL.keep (hu2.ext (by (repeat (first | with_reducible exact Ext.refl _ | with_reducible assumption | refine Ext.trans ?_ (by with_reducible assumption) | refine Ext.alloc ?_ _ _ | refine Ext.drew ?_ | refine Ext.drewN ?_ _)))) m9 (fun x hx q => hx (Or.inr q)) | exact NL.keep ((hu2.widen (Nat.le_trans (Ext.size (by (repeat (first | with_reducible exact Ext.refl _ | with_reducible assumption | refine Ext.trans ?_ (by with_reducible assumption) | refine Ext.alloc ?_ _ _ | refine Ext.drew ?_ | refine Ext.drewN ?_ _)))) g7)).ext (by (repeat (first | with_reducible exact Ext.refl _ | with_reducible assumption | refine Ext.trans ?_ (by with_reducible assumption) | refine Ext.alloc ?_ _ _ | refine Ext.drew ?_ | refine Ext.drewN ?_ _)))) m9 (fun x hx q => hx (Or.inr q))), hlb2⟩, (by first | exact NL.keep (hu3.ext (by (repeat (first | with_reducible exact Ext.refl _ | with_reducible assumption | refine Ext.trans ?_ (by with_reducible assumption) | refine Ext.alloc ?_ _ _ | refine Ext.drew ?_ | refine Ext.drewN ?_ _)))) m9 (fun x hx q => hx (Or.inr q)) | exact NL.keep ((hu3.widen (Nat.le_trans (Ext.size (by (repeat (first | with_reducible exact Ext.refl _ | with_reducible assumption | refine Ext.trans ?_ (by with_reducible assumption) | refine Ext.alloc ?_ _ _ | refine Ext.drew ?_ | refine Ext.drewN ?_ _)))) g7)).ext (by (repeat (first | with_reducible exact Ext.refl _ | with_reducible assumption | refine Ext.trans ?_ (by with_reducible assumption) | refine Ext.alloc ?_ _ _ | refine Ext.drew ?_ | refine Ext.drewN ?_ _)))) m9 (fun x hx q => hx (Or.inr q)))⟩
        refine step_any rfl (op_alloc rfl zero108' (acR_size (by decide) _ _ _ _) ?_)
        rintro B6 W7 e7 b7 g7
        refine hK.out _ _ ?_ (fun hHeld => ?_)
        · exact HH.out.trans e7
        clear hK K HH
        have HH : Hid (Ext W0 _) := hHeld
        clear hHeld
        change wpAnyH _ _ _ _ _ _ _ (Act.put _ (some 6) _) _
        simp only [Act.put, List.setIfInBounds_toArray, List.set_cons_zero, List.set_cons_succ]
        refine wpAnyH_ready (rs := [10]) (by kernel_rfl) (by simp) ?_
        refine AllReadyH.cons rfl (fun K hK => ?_) AllReadyH.nil
        go_simp
        go_at_call 36; refine (yBytesOf2 (O := Wd (Wd (Wd (Wd O B2) B3) BA) B6) (Small.wd3 hOA (by (repeat (first | with_reducible exact Ext.refl _ | with_reducible assumption | refine Ext.trans ?_ (by with_reducible assumption) | refine Ext.alloc ?_ _ _ | refine Ext.drew ?_ | refine Ext.drewN ?_ _))) (b7.ext (by (repeat (first | with_reducible exact Ext.refl _ | with_reducible assumption | refine Ext.trans ?_ (by with_reducible assumption) | refine Ext.alloc ?_ _ _ | refine Ext.drew ?_ | refine Ext.drewN ?_ _))))) (hlc.ext (by (repeat (first | with_reducible exact Ext.refl _ | with_reducible assumption | refine Ext.trans ?_ (by with_reducible assumption) | refine Ext.alloc ?_ _ _ | refine Ext.drew ?_ | refine Ext.drewN ?_ _))))).mono ?_; rintro e w7 ⟨u3, rfl, hu3, he⟩
        refine hK.out _ _ ?_ (fun hHeld => ?_)
        · first | exact HH.out.trans hmY | exact HH.out.trans he | exact HH.out
        clear hK K HH
        have HH : Hid (Ext W0 _) := hHeld
        clear hHeld
        refine wpAnyH_take (i := 11) rfl (by kernel_rfl) (by kernel_rfl) (by kernel_rfl) (fun _ _ _ h => h) (yields_build (by rfl) rfl (b108 hri.parts.aLt hu1.onec hu2.onec hu3.onec) (by simp [Act.eval])) HH.out ?_
        change wpAnyH _ _ _ _ _ _ _ (Act.put _ (some 57) _) _
        simp only [Act.put, List.setIfInBounds_toArray, List.set_cons_zero, List.set_cons_succ]
        refine wpAnyH_ready (rs := [13]) (by kernel_rfl) (by simp) ?_
        refine AllReadyH.cons rfl (fun K hK => ?_) AllReadyH.nil
        refine step_any rfl (op_storeRow rfl rt108 rfl rfl (acR_size hri.parts.aLt _ _ _ _) (acR_one hu1.onec hu2.onec hu3.onec rfl) (b7.ext (by (repeat (first | with_reducible exact Ext.refl _ | with_reducible assumption | refine Ext.trans ?_ (by with_reducible assumption) | refine Ext.alloc ?_ _ _ | refine Ext.drew ?_ | refine Ext.drewN ?_ _)))) (by decide) ?_)
        rintro W9 b9 m9
        refine hK.out _ _ ?_ (fun hHeld => ?_)
        · exact Ext.trans_mod HH.out m9 (fun q hq => by have hq2 : q = B6 := hq; rw [hq2]; exact Nat.le_trans (Ext.size (by (repeat (first | with_reducible exact Ext.refl _ | with_reducible assumption | refine Ext.trans ?_ (by with_reducible assumption) | refine Ext.alloc ?_ _ _ | refine Ext.drew ?_ | refine Ext.drewN ?_ _)))) g7)
        clear hK K HH
        have HH : Hid (Ext W0 _) := hHeld
        clear hHeld
        change wpAnyH _ _ _ _ _ _ _ (Act.put _ none _) _
        simp only [Act.put, List.setIfInBounds_toArray, List.set_cons_zero, List.set_cons_succ]
        refine wpAnyH_done (by kernel_rfl) ?_ _
        exact key B6 W9 u1 u2 u3 ⟨HH.out, Nat.le_trans (Ext.size (by (repeat (first | with_reducible exact Ext.refl _ | with_reducible assumption | refine Ext.trans ?_ (by with_reducible assumption) | refine Ext.alloc ?_ _ _ | refine Ext.drew ?_ | refine Ext.drewN ?_ _)))) g7, blk_laid24 (acR_size hri.parts.aLt _ _ _ _) b9, ⟨ln, (by first | exact NL.keep (hu1.ext (by (repeat (first | with_reducible exact Ext.refl _ | with_reducible assumption | refine Ext.trans ?_ (by with_reducible assumption) | refine Ext.alloc ?_ _ _ | refine Ext.drew ?_ | refine Ext.drewN ?_ _)))) m9 (fun x hx q => hx (Or.inr q)) | exact NL.keep ((hu1.widen (Nat.le_trans (Ext.size (by (repeat (first | with_reducible exact Ext.refl _ | with_reducible assumption | refine Ext.trans ?_ (by with_reducible assumption) | refine Ext.alloc ?_ _ _ | refine Ext.drew ?_ | refine Ext.drewN ?_ _)))) g7)).ext (by (repeat (first | with_reducible exact Ext.refl _ | with_reducible assumption | refine Ext.trans ?_ (by with_reducible assumption) | refine Ext.alloc ?_ _ _ | refine Ext.drew ?_ | refine Ext.drewN ?_ _)))) m9 (fun x hx q => hx (Or.inr q))), hln2⟩, ⟨lb, (by first | exact NL.keep (hu2.ext (by (repeat (first | with_reducible exact Ext.refl _ | with_reducible assumption | refine Ext.trans ?_ (by with_reducible assumption) | refine Ext.alloc ?_ _ _ | refine Ext.drew ?_ | refine Ext.drewN ?_ _)))) m9 (fun x hx q => hx (Or.inr q)) | exact NL.keep ((hu2.widen (Nat.le_trans (Ext.size (by (repeat (first | with_reducible exact Ext.refl _ | with_reducible assumption | refine Ext.trans ?_ (by with_reducible assumption) | refine Ext.alloc ?_ _ _ | refine Ext.drew ?_ | refine Ext.drewN ?_ _)))) g7)).ext (by (repeat (first | with_reducible exact Ext.refl _ | with_reducible assumption | refine Ext.trans ?_ (by with_reducible assumption) | refine Ext.alloc ?_ _ _ | refine Ext.drew ?_ | refine Ext.drewN ?_ _)))) m9 (fun x hx q => hx (Or.inr q))), hlb2⟩, (by first | exact NL.keep (hu3.ext (by (repeat (first | with_reducible exact Ext.refl _ | with_reducible assumption | refine Ext.trans ?_ (by with_reducible assumption) | refine Ext.alloc ?_ _ _ | refine Ext.drew ?_ | refine Ext.drewN ?_ _)))) m9 (fun x hx q => hx (Or.inr q)) | exact NL.keep ((hu3.widen (Nat.le_trans (Ext.size (by (repeat (first | with_reducible exact Ext.refl _ | with_reducible assumption | refine Ext.trans ?_ (by with_reducible assumption) | refine Ext.alloc ?_ _ _ | refine Ext.drew ?_ | refine Ext.drewN ?_ _)))) g7)).ext (by (repeat (first | with_reducible exact Ext.refl _ | with_reducible assumption | refine Ext.trans ?_ (by with_reducible assumption) | refine Ext.alloc ?_ _ _ | refine Ext.drew ?_ | refine Ext.drewN ?_ _)))) m9 (fun x hx q => hx (Or.inr q)))⟩
        refine step_any rfl (op_alloc rfl zero108' (acR_size (by decide) _ _ _ _) ?_)
        rintro B6 W7 e7 b7 g7
        refine hK.out _ _ ?_ (fun hHeld => ?_)
        · exact HH.out.trans e7
        clear hK K HH
        have HH : Hid (Ext W0 _) := hHeld
        clear hHeld
        change wpAnyH _ _ _ _ _ _ _ (Act.put _ (some 6) _) _
        simp only [Act.put, List.setIfInBounds_toArray, List.set_cons_zero, List.set_cons_succ]
        refine wpAnyH_ready (rs := [7]) (by kernel_rfl) (by simp) ?_
        refine AllReadyH.cons rfl (fun K hK => ?_) AllReadyH.nil
        go_simp
        go_at_call 226; refine (yNatOf (O := Wd (Wd (Wd (Wd O B2) B3) BA) B6) (Small.wd3 hOA (by (repeat (first | with_reducible exact Ext.refl _ | with_reducible assumption | refine Ext.trans ?_ (by with_reducible assumption) | refine Ext.alloc ?_ _ _ | refine Ext.drew ?_ | refine Ext.drewN ?_ _))) (b7.ext (by (repeat (first | with_reducible exact Ext.refl _ | with_reducible assumption | refine Ext.trans ?_ (by with_reducible assumption) | refine Ext.alloc ?_ _ _ | refine Ext.drew ?_ | refine Ext.drewN ?_ _))))) (hlb.ext (by (repeat (first | with_reducible exact Ext.refl _ | with_reducible assumption | refine Ext.trans ?_ (by with_reducible assumption) | refine Ext.alloc ?_ _ _ | refine Ext.drew ?_ | refine Ext.drewN ?_ _))))).mono ?_; rintro e w6 ⟨u2, rfl, hu2, he⟩
        refine hK.out _ _ ?_ (fun hHeld => ?_)
        · first | exact HH.out.trans hmY | exact HH.out.trans he | exact HH.out
        clear hK K HH
        have HH : Hid (Ext W0 _) := hHeld
        clear hHeld
        refine wpAnyH_ready (rs := [10]) (by kernel_rfl) (by simp) ?_
        refine AllReadyH.cons rfl (fun K hK => ?_) AllReadyH.nil
        go_simp
        go_at_call 36; refine (yBytesOf2 (O := Wd (Wd (Wd (Wd O B2) B3) BA) B6) (Small.wd3 hOA (by (repeat (first | with_reducible exact Ext.refl _ | with_reducible assumption | refine Ext.trans ?_ (by with_reducible assumption) | refine Ext.alloc ?_ _ _ | refine Ext.drew ?_ | refine Ext.drewN ?_ _))) (b7.ext (by (repeat (first | with_reducible exact Ext.refl _ | with_reducible assumption | refine Ext.trans ?_ (by with_reducible assumption) | refine Ext.alloc ?_ _ _ | refine Ext.drew ?_ | refine Ext.drewN ?_ _))))) (hlc.ext (by (repeat (first | with_reducible exact Ext.refl _ | with_reducible assumption | refine Ext.trans ?_ (by with_reducible assumption) | refine Ext.alloc ?_ _ _ | refine Ext.drew ?_ | refine Ext.drewN ?_ _))))).mono ?_; rintro e w7 ⟨u3, rfl, hu3, he⟩
        refine hK.out _ _ ?_ (fun hHeld => ?_)
        · first | exact HH.out.trans hmY | exact HH.out.trans he | exact HH.out
        clear hK K HH
        have HH : Hid (Ext W0 _) := hHeld
        clear hHeld
        refine wpAnyH_take (i := 11) rfl (by kernel_rfl) (by kernel_rfl) (by kernel_rfl) (fun _ _ _ h => h) (yields_build (by rfl) rfl (b108 hri.parts.aLt hu1.onec hu2.onec hu3.onec) (by simp [Act.eval])) HH.out ?_
        change wpAnyH _ _ _ _ _ _ _ (Act.put _ (some 57) _) _
        simp only [Act.put, List.setIfInBounds_toArray, List.set_cons_zero, List.set_cons_succ]
        refine wpAnyH_ready (rs := [13]) (by kernel_rfl) (by simp) ?_
        refine AllReadyH.cons rfl (fun K hK => ?_) AllReadyH.nil
        refine step_any rfl (op_storeRow rfl rt108 rfl rfl (acR_size hri.parts.aLt _ _ _ _) (acR_one hu1.onec hu2.onec hu3.onec rfl) (b7.ext (by (repeat (first | with_reducible exact Ext.refl _ | with_reducible assumption | refine Ext.trans ?_ (by with_reducible assumption) | refine Ext.alloc ?_ _ _ | refine Ext.drew ?_ | refine Ext.drewN ?_ _)))) (by decide) ?_)
        rintro W9 b9 m9
        refine hK.out _ _ ?_ (fun hHeld => ?_)
        · exact Ext.trans_mod HH.out m9 (fun q hq => by have hq2 : q = B6 := hq; rw [hq2]; exact Nat.le_trans (Ext.size (by (repeat (first | with_reducible exact Ext.refl _ | with_reducible assumption | refine Ext.trans ?_ (by with_reducible assumption) | refine Ext.alloc ?_ _ _ | refine Ext.drew ?_ | refine Ext.drewN ?_ _)))) g7)
        clear hK K HH
        have HH : Hid (Ext W0 _) := hHeld
        clear hHeld
        change wpAnyH _ _ _ _ _ _ _ (Act.put _ none _) _
        simp only [Act.put, List.setIfInBounds_toArray, List.set_cons_zero, List.set_cons_succ]
        refine wpAnyH_done (by kernel_rfl) ?_ _
        exact key B6 W9 u1 u2 u3 ⟨HH.out, Nat.le_trans (Ext.size (by (repeat (first | with_reducible exact Ext.refl _ | with_reducible assumption | refine Ext.trans ?_ (by with_reducible assumption) | refine Ext.alloc ?_ _ _ | refine Ext.drew ?_ | refine Ext.drewN ?_ _)))) g7, blk_laid24 (acR_size hri.parts.aLt _ _ _ _) b9, ⟨ln, (by first | exact NL.keep (hu1.ext (by (repeat (first | with_reducible exact Ext.refl _ | with_reducible assumption | refine Ext.trans ?_ (by with_reducible assumption) | refine Ext.alloc ?_ _ _ | refine Ext.drew ?_ | refine Ext.drewN ?_ _)))) m9 (fun x hx q => hx (Or.inr q)) | exact NL.keep ((hu1.widen (Nat.le_trans (Ext.size (by (repeat (first | with_reducible exact Ext.refl _ | with_reducible assumption | refine Ext.trans ?_ (by with_reducible assumption) | refine Ext.alloc ?_ _ _ | refine Ext.drew ?_ | refine Ext.drewN ?_ _)))) g7)).ext (by (repeat (first | with_reducible exact Ext.refl _ | with_reducible assumption | refine Ext.trans ?_ (by with_reducible assumption) | refine Ext.alloc ?_ _ _ | refine Ext.drew ?_ | refine Ext.drewN ?_ _)))) m9 (fun x hx q => hx (Or.inr q))), hln2⟩, ⟨lb, (by first | exact NL.keep (hu2.ext (by (repeat (first | with_reducible exact Ext.refl _ | with_reducible assumption | refine Ext.trans ?_ (by with_reducible assumption) | refine Ext.alloc ?_ _ _ | refine Ext.drew ?_ | refine Ext.drewN ?_ _)))) m9 (fun x hx q => hx (Or.inr q)) | exact NL.keep ((hu2.widen (Nat.le_trans (Ext.size (by (repeat (first | with_reducible exact Ext.refl _ | with_reducible assumption | refine Ext.trans ?_ (by with_reducible assumption) | refine Ext.alloc ?_ _ _ | refine Ext.drew ?_ | refine Ext.drewN ?_ _)))) g7)).ext (by (repeat (first | with_reducible exact Ext.refl _ | with_reducible assumption | refine Ext.trans ?_ (by with_reducible assumption) | refine Ext.alloc ?_ _ _ | refine Ext.drew ?_ | refine Ext.drewN ?_ _)))) m9 (fun x hx q => hx (Or.inr q))), hlb2⟩, (by first | exact NL.keep (hu3.ext (by (repeat (first | with_reducible exact Ext.refl _ | with_reducible assumption | refine Ext.trans ?_ (by with_reducible assumption) | refine Ext.alloc ?_ _ _ | refine Ext.drew ?_ | refine Ext.drewN ?_ _)))) m9 (fun x hx q => hx (Or.inr q)) | exact NL.keep ((hu3.widen (Nat.le_trans (Ext.size (by (repeat (first | with_reducible exact Ext.refl _ | with_reducible assumption | refine Ext.trans ?_ (by with_reducible assumption) | refine Ext.alloc ?_ _ _ | refine Ext.drew ?_ | refine Ext.drewN ?_ _)))) g7)).ext (by (repeat (first | with_reducible exact Ext.refl _ | with_reducible assumption | refine Ext.trans ?_ (by with_reducible assumption) | refine Ext.alloc ?_ _ _ | refine Ext.drew ?_ | refine Ext.drewN ?_ _)))) m9 (fun x hx q => hx (Or.inr q)))⟩
        refine step_any rfl (op_alloc rfl zero108' (acR_size (by decide) _ _ _ _) ?_)
        rintro B6 W7 e7 b7 g7
        refine hK.out _ _ ?_ (fun hHeld => ?_)
        · exact HH.out.trans e7
        clear hK K HH
        have HH : Hid (Ext W0 _) := hHeld
        clear hHeld
        change wpAnyH _ _ _ _ _ _ _ (Act.put _ (some 6) _) _
        simp only [Act.put, List.setIfInBounds_toArray, List.set_cons_zero, List.set_cons_succ]
        refine wpAnyH_ready (rs := [4]) (by kernel_rfl) (by simp) ?_
        refine AllReadyH.cons rfl (fun K hK => ?_) AllReadyH.nil
        go_simp
        go_at_call 226; refine (yNatOf (O := Wd (Wd (Wd (Wd O B2) B3) BA) B6) (Small.wd3 hOA (by (repeat (first | with_reducible exact Ext.refl _ | with_reducible assumption | refine Ext.trans ?_ (by with_reducible assumption) | refine Ext.alloc ?_ _ _ | refine Ext.drew ?_ | refine Ext.drewN ?_ _))) (b7.ext (by (repeat (first | with_reducible exact Ext.refl _ | with_reducible assumption | refine Ext.trans ?_ (by with_reducible assumption) | refine Ext.alloc ?_ _ _ | refine Ext.drew ?_ | refine Ext.drewN ?_ _))))) (hln.ext (by (repeat (first | with_reducible exact Ext.refl _ | with_reducible assumption | refine Ext.trans ?_ (by with_reducible assumption) | refine Ext.alloc ?_ _ _ | refine Ext.drew ?_ | refine Ext.drewN ?_ _))))).mono ?_; rintro e w5 ⟨u1, rfl, hu1, he⟩
        refine hK.out _ _ ?_ (fun hHeld => ?_)
        · first | exact HH.out.trans hmY | exact HH.out.trans he | exact HH.out
        clear hK K HH
        have HH : Hid (Ext W0 _) := hHeld
        clear hHeld
        refine wpAnyH_ready (rs := [7]) (by kernel_rfl) (by simp) ?_
        refine AllReadyH.cons rfl (fun K hK => ?_) AllReadyH.nil
        go_simp
        go_at_call 226; refine (yNatOf (O := Wd (Wd (Wd (Wd O B2) B3) BA) B6) (Small.wd3 hOA (by (repeat (first | with_reducible exact Ext.refl _ | with_reducible assumption | refine Ext.trans ?_ (by with_reducible assumption) | refine Ext.alloc ?_ _ _ | refine Ext.drew ?_ | refine Ext.drewN ?_ _))) (b7.ext (by (repeat (first | with_reducible exact Ext.refl _ | with_reducible assumption | refine Ext.trans ?_ (by with_reducible assumption) | refine Ext.alloc ?_ _ _ | refine Ext.drew ?_ | refine Ext.drewN ?_ _))))) (hlb.ext (by (repeat (first | with_reducible exact Ext.refl _ | with_reducible assumption | refine Ext.trans ?_ (by with_reducible assumption) | refine Ext.alloc ?_ _ _ | refine Ext.drew ?_ | refine Ext.drewN ?_ _))))).mono ?_; rintro e w6 ⟨u2, rfl, hu2, he⟩
        refine hK.out _ _ ?_ (fun hHeld => ?_)
        · first | exact HH.out.trans hmY | exact HH.out.trans he | exact HH.out
        clear hK K HH
        have HH : Hid (Ext W0 _) := hHeld
        clear hHeld
        refine wpAnyH_ready (rs := [10]) (by kernel_rfl) (by simp) ?_
        refine AllReadyH.cons rfl (fun K hK => ?_) AllReadyH.nil
        go_simp
        go_at_call 36; refine (yBytesOf2 (O := Wd (Wd (Wd (Wd O B2) B3) BA) B6) (Small.wd3 hOA (by (repeat (first | with_reducible exact Ext.refl _ | with_reducible assumption | refine Ext.trans ?_ (by with_reducible assumption) | refine Ext.alloc ?_ _ _ | refine Ext.drew ?_ | refine Ext.drewN ?_ _))) (b7.ext (by (repeat (first | with_reducible exact Ext.refl _ | with_reducible assumption | refine Ext.trans ?_ (by with_reducible assumption) | refine Ext.alloc ?_ _ _ | refine Ext.drew ?_ | refine Ext.drewN ?_ _))))) (hlc.ext (by (repeat (first | with_reducible exact Ext.refl _ | with_reducible assumption | refine Ext.trans ?_ (by with_reducible assumption) | refine Ext.alloc ?_ _ _ | refine Ext.drew ?_ | refine Ext.drewN ?_ _))))).mono ?_; rintro e w7 ⟨u3, rfl, hu3, he⟩
        refine hK.out _ _ ?_ (fun hHeld => ?_)
        · first | exact HH.out.trans hmY | exact HH.out.trans he | exact HH.out
        clear hK K HH
        have HH : Hid (Ext W0 _) := hHeld
        clear hHeld
        refine wpAnyH_take (i := 11) rfl (by kernel_rfl) (by kernel_rfl) (by kernel_rfl) (fun _ _ _ h => h) (yields_build (by rfl) rfl (b108 hri.parts.aLt hu1.onec hu2.onec hu3.onec) (by simp [Act.eval])) HH.out ?_
        change wpAnyH _ _ _ _ _ _ _ (Act.put _ (some 57) _) _
        simp only [Act.put, List.setIfInBounds_toArray, List.set_cons_zero, List.set_cons_succ]
        refine wpAnyH_ready (rs := [13]) (by kernel_rfl) (by simp) ?_
        refine AllReadyH.cons rfl (fun K hK => ?_) AllReadyH.nil
        refine step_any rfl (op_storeRow rfl rt108 rfl rfl (acR_size hri.parts.aLt _ _ _ _) (acR_one hu1.onec hu2.onec hu3.onec rfl) (b7.ext (by (repeat (first | with_reducible exact Ext.refl _ | with_reducible assumption | refine Ext.trans ?_ (by with_reducible assumption) | refine Ext.alloc ?_ _ _ | refine Ext.drew ?_ | refine Ext.drewN ?_ _)))) (by decide) ?_)
        rintro W9 b9 m9
        refine hK.out _ _ ?_ (fun hHeld => ?_)
        · exact Ext.trans_mod HH.out m9 (fun q hq => by have hq2 : q = B6 := hq; rw [hq2]; exact Nat.le_trans (Ext.size (by (repeat (first | with_reducible exact Ext.refl _ | with_reducible assumption | refine Ext.trans ?_ (by with_reducible assumption) | refine Ext.alloc ?_ _ _ | refine Ext.drew ?_ | refine Ext.drewN ?_ _)))) g7)
        clear hK K HH
        have HH : Hid (Ext W0 _) := hHeld
        clear hHeld
        change wpAnyH _ _ _ _ _ _ _ (Act.put _ none _) _
        simp only [Act.put, List.setIfInBounds_toArray, List.set_cons_zero, List.set_cons_succ]
        refine wpAnyH_done (by kernel_rfl) ?_ _
        exact key B6 W9 u1 u2 u3 ⟨HH.out, Nat.le_trans (Ext.size (by (repeat (first | with_reducible exact Ext.refl _ | with_reducible assumption | refine Ext.trans ?_ (by with_reducible assumption) | refine Ext.alloc ?_ _ _ | refine Ext.drew ?_ | refine Ext.drewN ?_ _)))) g7, blk_laid24 (acR_size hri.parts.aLt _ _ _ _) b9, ⟨ln, (by first | exact NL.keep (hu1.ext (by (repeat (first | with_reducible exact Ext.refl _ | with_reducible assumption | refine Ext.trans ?_ (by with_reducible assumption) | refine Ext.alloc ?_ _ _ | refine Ext.drew ?_ | refine Ext.drewN ?_ _)))) m9 (fun x hx q => hx (Or.inr q)) | exact NL.keep ((hu1.widen (Nat.le_trans (Ext.size (by (repeat (first | with_reducible exact Ext.refl _ | with_reducible assumption | refine Ext.trans ?_ (by with_reducible assumption) | refine Ext.alloc ?_ _ _ | refine Ext.drew ?_ | refine Ext.drewN ?_ _)))) g7)).ext (by (repeat (first | with_reducible exact Ext.refl _ | with_reducible assumption | refine Ext.trans ?_ (by with_reducible assumption) | refine Ext.alloc ?_ _ _ | refine Ext.drew ?_ | refine Ext.drewN ?_ _)))) m9 (fun x hx q => hx (Or.inr q))), hln2⟩, ⟨lb, (by first | exact NL.keep (hu2.ext (by (repeat (first | with_reducible exact Ext.refl _ | with_reducible assumption | refine Ext.trans ?_ (by with_reducible assumption) | refine Ext.alloc ?_ _ _ | refine Ext.drew ?_ | refine Ext.drewN ?_ _)))) m9 (fun x hx q => hx (Or.inr q)) | exact NL.keep ((hu2.widen (Nat.le_trans (Ext.size (by (repeat (first | with_reducible exact Ext.refl _ | with_reducible assumption | refine Ext.trans ?_ (by with_reducible assumption) | refine Ext.alloc ?_ _ _ | refine Ext.drew ?_ | refine Ext.drewN ?_ _)))) g7)).ext (by (repeat (first | with_reducible exact Ext.refl _ | with_reducible assumption | refine Ext.trans ?_ (by with_reducible assumption) | refine Ext.alloc ?_ _ _ | refine Ext.drew ?_ | refine Ext.drewN ?_ _)))) m9 (fun x hx q => hx (Or.inr q))), hlb2⟩, (by first | exact NL.keep (hu3.ext (by (repeat (first | with_reducible exact Ext.refl _ | with_reducible assumption | refine Ext.trans ?_ (by with_reducible assumption) | refine Ext.alloc ?_ _ _ | refine Ext.drew ?_ | refine Ext.drewN ?_ _)))) m9 (fun x hx q => hx (Or.inr q)) | exact NL.keep ((hu3.widen (Nat.le_trans (Ext.size (by (repeat (first | with_reducible exact Ext.refl _ | with_reducible assumption | refine Ext.trans ?_ (by with_reducible assumption) | refine Ext.alloc ?_ _ _ | refine Ext.drew ?_ | refine Ext.drewN ?_ _)))) g7)).ext (by (repeat (first | with_reducible exact Ext.refl _ | with_reducible assumption | refine Ext.trans ?_ (by with_reducible assumption) | refine Ext.alloc ?_ _ _ | refine Ext.drew ?_ | refine Ext.drewN ?_ _)))) m9 (fun x hx q => hx (Or.inr q)))⟩
        rintro B6 W7 u1 u2 u3 ⟨e7, g7, b7, hn1, hn2, hn3⟩
        have hE7 : Ext wr W7 := (hE6.trans hW0).trans e7
        have gB6 : wr.heap.size ≤ B6 := Nat.le_trans (hE6.trans hW0).size g7
        have hO6 : Small (Wd (Wd (Wd (Wd O B2) B3) BA) B6) W7 := Small.wd3 hOA (hW0.trans e7) b7
        have bL7 : Blk W7 B5 24 121 cL := bL.ext (hW0.trans e7)
        have hB5l := bL.lt
        clear bL hln hlb hlc hln2 hlb2 hL20 hL21 hL22 hLa hOA hLc
        have hnil2 := fun W => run_neq_slice_nil (P := Hvah.prog) W 119 125 base2 x.slots.length cap2 under106'
        go_upto_if 60 with ((with_reducible (refine Veil.out ?_; apply wl_loadB onet106')); (case hx => rfl); (case hB => exact bL7.ext (by (repeat (first | with_reducible exact Ext.refl _ | with_reducible assumption | refine Ext.trans ?_ (by with_reducible assumption) | refine Ext.alloc ?_ _ _ | refine Ext.drew ?_ | refine Ext.drewN ?_ _)))); (case hi => decide))
        go_cut [] (fun wx => ∃ c6, Blk wx B6 24 121 c6 ∧ Hid (∀ j, j ≠ 23 → c6 j = cf (acR x.addr u1 u2 u3 (.slice none 0 0)) j) ∧ Mod (· = B6) W7 wx ∧ Laid 125 2 W7.heap.size (fun B cc o y => SlC (Wd (Wd (Wd (Wd (Wd O B2) B3) BA) B6) B) wx cc o y) wx (c6 23) x.slots 0)
        case first =>
          cases base2 with
          | none =>
            have hem := hbn2 rfl
            go_wp2
            go_meet
            case rel => exact ⟨_, b7, (fun j hj => rfl : ∀ j, j ≠ 23 → cf (acR x.addr u1 u2 u3 (.slice none 0 0)) j = cf (acR x.addr u1 u2 u3 (.slice none 0 0)) j), Mod.refl _ _, Or.inl ⟨hem, acR_23 hax⟩⟩
          | some ad =>
            go_wp2_with (first | ((with_reducible (refine Veil.out ?_; apply wl_loadB onet106')); (case hx => rfl); (case hB => exact bL7.ext (by (repeat (first | with_reducible exact Ext.refl _ | with_reducible assumption | refine Ext.trans ?_ (by with_reducible assumption) | refine Ext.alloc ?_ _ _ | refine Ext.drew ?_ | refine Ext.drewN ?_ _)))); (case hi => decide)) | ((with_reducible (refine Veil.out ?_; apply wl_makeR under106' el116 x.slots.length)); (case hl => rfl); (case hc => rfl); (case hn => exact hxm); rintro BS W10 e10 b10 g10) | ((with_reducible (refine Veil.out ?_; apply wl_storeC onet106')); (case hx => rfl); (case hy => rfl); (case h1 => rfl); (case hB => exact b7.ext (by (repeat (first | with_reducible exact Ext.refl _ | with_reducible assumption | refine Ext.trans ?_ (by with_reducible assumption) | refine Ext.alloc ?_ _ _ | refine Ext.drew ?_ | refine Ext.drewN ?_ _)))); (case hi => decide); rintro W11 b11 m11))
            go_meet
            case rel => exact ⟨_, b11, (fun j hj => updv_ne _ _ hj : ∀ j, j ≠ 23 → updv (cf (acR x.addr u1 u2 u3 (.slice none 0 0))) 23 _ j = cf (acR x.addr u1 u2 u3 (.slice none 0 0)) j), (e10.mod _).trans m11, Or.inr ⟨BS, _, updv_same _ _ _, b10.mod m11 (fun q => by have := b7.lt; omega), g10, fun k hk => absurd hk (Nat.not_lt_zero _)⟩⟩
        case rest =>
        obtain ⟨c6, b6', hc6, m6', hlaid2⟩ := hcut
        clear hnil2 b7
        have hL7 : ∀ W, Mod (· = B6) W7 W → Ext wr W := fun W hW => Ext.trans_mod hE7 hW (fun q hq => by have hq2 : q = B6 := hq; rw [hq2]; exact gB6)
        have hB56 : B5 ≠ B6 := fun q => by have := hW0.size; omega
        have hlt7 : B6 < W7.heap.size := hO6 B6 (Or.inr rfl)
        go_upto_block 2 with ((with_reducible (refine Veil.out ?_; apply wl_loadB onet106')); (case hx => rfl); (case hB => exact bL7.mod m6' hB56); (case hi => decide))
        go_cut [] (fun wx => ∃ c6, Blk wx B6 24 121 c6 ∧ Hid (∀ j, j ≠ 23 → c6 j = cf (acR x.addr u1 u2 u3 (.slice none 0 0)) j) ∧ Mod (· = B6) W7 wx ∧ SloL (Wd (Wd (Wd (Wd O B2) B3) BA) B6) wx (c6 23) x.slots)
        case first =>
          go_upto_region 11 with (fail)
          try simp only [Act.put]
          go_loopw [69] (fun iv wr => ∃ (k : Nat), iv = .int .i64 (k : Nat) ∧ k ≤ x.slots.length ∧ Blk wr B6 24 121 c6 ∧ Mod (· = B6) W7 wr ∧ Hid (Laid 125 2 W7.heap.size (fun B cc o y => SlC (Wd (Wd (Wd (Wd (Wd O B2) B3) BA) B6) B) wr cc o y) wr (c6 23) x.slots k)) (fun iv _ => x.slots.length - (intOf iv).toNat)
          case atStart => exact ⟨0, rfl, Nat.zero_le _, b6', m6', hlaid2⟩
          case round =>
            clear hlaid2 b6' m6'
            obtain ⟨k, rfl, hk, bX, mX, hlaid2⟩ := hrel
            have hEs := hEr.trans (hL7 _ mX)
            rcases Nat.lt_or_ge k x.slots.length with hlt2 | hge2
            · have z2 : (k : Int) < x.slots.length := by omega
              obtain ⟨bs, cs2, rfl, hbs, hcap2, hrow2⟩ := hsrc2 (fun q => by rw [q] at hlt2; cases hlt2)
              rcases hlaid2.out with ⟨q, _⟩ | ⟨BS, cS, hX23, bSr, gS, hdone2⟩
              · rw [q] at hlt2; cases hlt2
              clear hlaid2
              have hrk := hrow2 k hlt2
              obtain ⟨y, hy⟩ : ∃ y, Hid (x.slots[k] = y) := ⟨x.slots[k], rfl⟩
              rw [hy.out] at hrk
              have hones2 : Ones (rowOf cs2 (k * 2) 2) := ones_of (fun q hq => by
                rw [rowOf_size] at hq
                rw [cf_rowOf _ _ _ hq]
                rcases (show q = 0 ∨ q = 1 by omega) with rfl | rfl
                · exact hrk.key.one
                · exact hrk.val.one)
              have j2 : IntKind.i64.wrap ((k : Int) + 1) = ((k + 1 : Nat) : Int) := by rw [IntKind.wrap_i64]; omega
              obtain ⟨kn, hkn⟩ : ∃ z : Nat, Hid ((k + 1 : Nat) = z) := ⟨_, rfl⟩
              rw [hkn.out] at j2
              obtain ⟨lk, hlk, hlk2⟩ := hrk.key
              obtain ⟨lv, hlv, hlv2⟩ := hrk.val
              go_upto_region 13 with (first | ((with_reducible (refine Veil.out ?_; apply wl_loadRow rt116)); (case hx => rfl); (case hB => exact hbs.ext hEs); (case hi => omega)) | ((with_reducible (refine Veil.out ?_; apply wl_allocB zero116')); (case hn => rfl); rintro B8 W10 e10 b10 g10) | ((with_reducible (refine Veil.out ?_; apply wl_storeRow rt116)); (case hx => rfl); (case hy => rfl); (case hr => exact rowOf_size _ _ _); (case h1 => exact hones2); (case hB => exact b10); (case hi => decide); rintro W11 b11 m11))
              have hE11 : Ext wr W11 := Ext.trans_mod e10 m11 (fun q hq => by have hq2 : q = B8 := hq; rw [hq2]; exact g10)
              obtain ⟨c8, hc8⟩ : ∃ z, Hid (layv (cf #[(.slice none 0 0 : Value), .slice none 0 0]) 0 (rowOf cs2 (k * 2) 2) = z) := ⟨_, rfl⟩
              have hLc : ∀ j, j < 2 → c8 j = cs2 (k * 2 + j) := fun j hj => by
                rw [← hc8.out, layv_atc _ _ _ _ (Nat.zero_le _) (by rw [rowOf_size]; omega), Nat.sub_zero, cf_rowOf _ _ _ hj]
              have b8 : Blk W11 B8 2 125 c8 := by rw [← hc8.out]; exact b11
              have h80 : c8 0 = cs2 (k * 2) := hLc 0 (by decide)
              have h81 : c8 1 = cs2 (k * 2 + 1) := hLc 1 (by decide)
              have hB8 : ¬ B8 = BS := fun q => by have := bSr.lt; omega
              have hBX : ¬ B6 = BS := fun q => by omega
              have hOS : Small (Wd (Wd (Wd (Wd (Wd O B2) B3) BA) B6) BS) W11 := Small.wd3 (fun b hb => Nat.lt_of_lt_of_le (hO6 b hb) mX.size) hE11 (bSr.ext hE11)
              clear hLc hc8 b11 e10 m11 hones2 hrow2 hrk
              generalize cs2 (k * 2) = k20 at *
              generalize cs2 (k * 2 + 1) = k21 at *
              refine w_ext ?_
              rintro W0 hW0
              refine wp_region_held_drew (S := fun w' => Mod (fun x => x = BS) W0 w') (by kernel_rfl) (Mod.refl _ _).drew (fun hHeld => ?_)
              have HH : Hid (Mod (fun x => x = BS) W0 _) := hHeld
              clear hHeld
              refine wpAnyH_take (i := 0) (v := ?_) rfl (by kernel_rfl) (by kernel_rfl) (by kernel_rfl) (fun _ _ _ h => h) (Or.inl ⟨by rfl, ?_⟩) HH.out ?_
              rotate_left
              · intro w hSw; go_simp; try with_reducible rfl
              change wpAnyH _ _ _ _ _ _ _ (Act.put _ (some 74) _) _
              simp only [Act.put, List.setIfInBounds_toArray, List.set_cons_zero, List.set_cons_succ]
              refine wpAnyH_take (i := 1) rfl (by kernel_rfl) (by kernel_rfl) (by kernel_rfl) (fun _ _ _ h => h) (yieldsIf_load1 (by rfl) _ _ rfl _ _ rfl onet106' _ (fun w hSw => by rw [(Blk.mod (bX.ext (by (repeat (first | with_reducible exact Ext.refl _ | with_reducible assumption | refine Ext.trans ?_ (by with_reducible assumption) | refine Ext.alloc ?_ _ _ | refine Ext.drew ?_ | refine Ext.drewN ?_ _)))) hSw (hBX)).cell (by decide), hX23])) HH.out ?_
              change wpAnyH _ _ _ _ _ _ _ (Act.put _ (some 75) _) _
              simp only [Act.put, List.setIfInBounds_toArray, List.set_cons_zero, List.set_cons_succ]
              refine wpAnyH_take (i := 2) (v := ?_) rfl (by kernel_rfl) (by kernel_rfl) (by kernel_rfl) (fun _ _ _ h => h) (Or.inl ⟨by rfl, ?_⟩) HH.out ?_
              rotate_left
              · intro w hSw; go_simp; try with_reducible rfl
              change wpAnyH _ _ _ _ _ _ _ (Act.put _ (some 76) _) _
              simp only [Act.put, List.setIfInBounds_toArray, List.set_cons_zero, List.set_cons_succ]
              refine wpAnyH_take (i := 3) (v := ?_) rfl (by kernel_rfl) (by kernel_rfl) (by kernel_rfl) (fun _ _ _ h => h) (Or.inl ⟨by rfl, ?_⟩) HH.out ?_
              rotate_left
              · intro w hSw; go_simp; try with_reducible rfl
              change wpAnyH _ _ _ _ _ _ _ (Act.put _ (some 77) _) _
              simp only [Act.put, List.setIfInBounds_toArray, List.set_cons_zero, List.set_cons_succ]
              refine wpAnyH_take (i := 4) rfl (by kernel_rfl) (by kernel_rfl) (by kernel_rfl) (fun _ _ _ h => h) (yieldsIf_load1 (by rfl) _ _ rfl _ _ rfl onet96' _ (fun w hSw => by rw [(Blk.mod (b8.ext (by (repeat (first | with_reducible exact Ext.refl _ | with_reducible assumption | refine Ext.trans ?_ (by with_reducible assumption) | refine Ext.alloc ?_ _ _ | refine Ext.drew ?_ | refine Ext.drewN ?_ _)))) hSw hB8).cell (by decide), h80])) HH.out ?_
              change wpAnyH _ _ _ _ _ _ _ (Act.put _ (some 78) _) _
              simp only [Act.put, List.setIfInBounds_toArray, List.set_cons_zero, List.set_cons_succ]
              refine wpAnyH_take (i := 6) (v := ?_) rfl (by kernel_rfl) (by kernel_rfl) (by kernel_rfl) (fun _ _ _ h => h) (Or.inl ⟨by rfl, ?_⟩) HH.out ?_
              rotate_left
              · intro w hSw; go_simp; try with_reducible rfl
              change wpAnyH _ _ _ _ _ _ _ (Act.put _ (some 80) _) _
              simp only [Act.put, List.setIfInBounds_toArray, List.set_cons_zero, List.set_cons_succ]
              refine wpAnyH_take (i := 7) rfl (by kernel_rfl) (by kernel_rfl) (by kernel_rfl) (fun _ _ _ h => h) (yieldsIf_load1 (by rfl) _ _ rfl _ _ rfl onet96' _ (fun w hSw => by rw [(Blk.mod (b8.ext (by (repeat (first | with_reducible exact Ext.refl _ | with_reducible assumption | refine Ext.trans ?_ (by with_reducible assumption) | refine Ext.alloc ?_ _ _ | refine Ext.drew ?_ | refine Ext.drewN ?_ _)))) hSw hB8).cell (by decide), h81])) HH.out ?_
              change wpAnyH _ _ _ _ _ _ _ (Act.put _ (some 81) _) _
              simp only [Act.put, List.setIfInBounds_toArray, List.set_cons_zero, List.set_cons_succ]
              refine wpAnyH_ready (rs := [5]) (by kernel_rfl) (by simp) ?_
              refine AllReadyH.cons rfl (fun K hK => ?_) AllReadyH.nil
              go_simp
              go_at_call 226; refine (yNatOf (O := Wd (Wd (Wd (Wd (Wd O B2) B3) BA) B6) BS) (hOS.ext (by (repeat (first | with_reducible exact Ext.refl _ | with_reducible assumption | refine Ext.trans ?_ (by with_reducible assumption) | refine Ext.alloc ?_ _ _ | refine Ext.drew ?_ | refine Ext.drewN ?_ _)))) (hlk.ext (by (repeat (first | with_reducible exact Ext.refl _ | with_reducible assumption | refine Ext.trans ?_ (by with_reducible assumption) | refine Ext.alloc ?_ _ _ | refine Ext.drew ?_ | refine Ext.drewN ?_ _))))).mono ?_; rintro e w8 ⟨k1, rfl, hk1, he⟩
              refine hK.out _ _ ?_ (fun hHeld => ?_)
              · first | exact HH.out.trans hmY | exact HH.out.trans_ext he | exact HH.out
              clear hK K HH
              have HH : Hid (Mod (fun x => x = BS) W0 _) := hHeld
              clear hHeld
              refine wpAnyH_ready (rs := [8]) (by kernel_rfl) (by simp) ?_
              refine AllReadyH.cons rfl (fun K hK => ?_) AllReadyH.nil
              go_simp
              go_at_call 226; refine (yNatOf (O := Wd (Wd (Wd (Wd (Wd O B2) B3) BA) B6) BS) (hOS.ext (by (repeat (first | with_reducible exact Ext.refl _ | with_reducible assumption | refine Ext.trans ?_ (by with_reducible assumption) | refine Ext.alloc ?_ _ _ | refine Ext.drew ?_ | refine Ext.drewN ?_ _)))) (hlv.ext (by (repeat (first | with_reducible exact Ext.refl _ | with_reducible assumption | refine Ext.trans ?_ (by with_reducible assumption) | refine Ext.alloc ?_ _ _ | refine Ext.drew ?_ | refine Ext.drewN ?_ _))))).mono ?_; rintro e w9 ⟨k2, rfl, hk2, he⟩
              refine hK.out _ _ ?_ (fun hHeld => ?_)
              · first | exact HH.out.trans hmY | exact HH.out.trans_ext he | exact HH.out
              clear hK K HH
              have HH : Hid (Mod (fun x => x = BS) W0 _) := hHeld
              clear hHeld
              refine wpAnyH_take (i := 9) rfl (by kernel_rfl) (by kernel_rfl) (by kernel_rfl) (fun _ _ _ h => h) (yields_build (by rfl) rfl (b116 hk1.onec hk2.onec) (by simp [Act.eval])) HH.out ?_
              change wpAnyH _ _ _ _ _ _ _ (Act.put _ (some 83) _) _
              simp only [Act.put, List.setIfInBounds_toArray, List.set_cons_zero, List.set_cons_succ]
              refine wpAnyH_take (i := 10) (v := ?_) rfl (by kernel_rfl) (by kernel_rfl) (by kernel_rfl) (fun _ _ _ h => h) (Or.inl ⟨by rfl, ?_⟩) HH.out ?_
              rotate_left
              · intro w hSw; go_simp; try with_reducible rfl
              change wpAnyH _ _ _ _ _ _ _ (Act.put _ (some 84) _) _
              simp only [Act.put, List.setIfInBounds_toArray, List.set_cons_zero, List.set_cons_succ]
              refine wpAnyH_ready (rs := [11]) (by kernel_rfl) (by simp) ?_
              refine AllReadyH.cons rfl (fun K hK => ?_) AllReadyH.nil
              refine step_any rfl (op_storeRow rfl rt116 rfl rfl rfl (two_ones hk1.onec hk2.onec) (bSr.ext (by (repeat (first | with_reducible exact Ext.refl _ | with_reducible assumption | refine Ext.trans ?_ (by with_reducible assumption) | refine Ext.alloc ?_ _ _ | refine Ext.drew ?_ | refine Ext.drewN ?_ _)))) (by omega) ?_)
              rintro W12 b12 m12
              refine hK.out _ _ ?_ (fun hHeld => ?_)
              · exact HH.out.trans m12
              clear hK K HH
              have HH : Hid (Mod (fun x => x = BS) W0 _) := hHeld
              clear hHeld
              change wpAnyH _ _ _ _ _ _ _ (Act.put _ none _) _
              simp only [Act.put, List.setIfInBounds_toArray, List.set_cons_zero, List.set_cons_succ]
              refine wpAnyH_done (by kernel_rfl) ?_ _
              go_wp2
              go_roundw
              case rel =>
                have h9 := hkn.out
                have hwr : Ext wr w9 := by (repeat (first | with_reducible exact Ext.refl _ | with_reducible assumption | refine Ext.trans ?_ (by with_reducible assumption) | refine Ext.alloc ?_ _ _ | refine Ext.drew ?_ | refine Ext.drewN ?_ _))
                have h89 : Ext w8 w9 := by (repeat (first | with_reducible exact Ext.refl _ | with_reducible assumption | refine Ext.trans ?_ (by with_reducible assumption) | refine Ext.alloc ?_ _ _ | refine Ext.drew ?_ | refine Ext.drewN ?_ _))
                have hne : ∀ b, ¬ Wd (Wd (Wd (Wd (Wd O B2) B3) BA) B6) BS b → ¬ b = BS := fun b hb q => hb (Or.inr q)
                refine ⟨kn, rfl, by omega, (bX.ext hwr).mod m12 hBX, (mX.trans_ext hwr).trans' m12 (fun b hb => Or.inr (by rw [hb]; exact gS)), ?_⟩
                show Laid 125 2 W7.heap.size (fun B cc o y => SlC (Wd (Wd (Wd (Wd (Wd O B2) B3) BA) B6) B) W12 cc o y) W12 (c6 23) x.slots kn
                refine Or.inr ⟨BS, _, hX23, b12, gS, fun j hj h2 => ?_⟩
                by_cases e : j = k
                · subst e
                  rw [hy.out]
                  refine ⟨?_, ?_⟩
                  · rw [layv_atc _ _ _ _ (Nat.le_refl _) (by simp), Nat.sub_self]
                    exact ⟨lk, (hk1.ext h89).keep m12 hne, hlk2⟩
                  · rw [layv_atc _ _ _ _ (by omega) (by simp), show j * 2 + 1 - j * 2 = 1 by omega]
                    exact ⟨lv, hk2.keep m12 hne, hlv2⟩
                · have q := hdone2 j (by omega) h2
                  refine ⟨?_, ?_⟩
                  · rw [layv_out _ _ _ (by simp; omega)]
                    exact (q.key.ext hwr).keep m12 hne
                  · rw [layv_out _ _ _ (by simp; omega)]
                    exact (q.val.ext hwr).keep m12 hne
              case measure => have h9 := hkn.out; simp [intOf]; omega
            · have z2 : ¬ (k : Int) < x.slots.length := by omega
              obtain rfl : k = x.slots.length := by omega
              go_wp2
              go_meet
              case rel =>
                refine ⟨c6, bX, hc6, mX, ?_⟩
                rcases hlaid2.out with ⟨q1, q2⟩ | ⟨BS, cS, hvS, bS, gS, hdone2⟩
                · exact Or.inl ⟨q1, q2⟩
                · exact Or.inr ⟨BS, _, cS, hvS, Nat.le_refl _, by omega, bS, fun q => Nat.lt_irrefl _ (Nat.lt_of_lt_of_le (hO6 _ q) gS), fun k hk => ⟨(hdone2 k hk hk).key.narrow, (hdone2 k hk hk).val.narrow⟩⟩
        case rest =>
        clear hlaid2 b6' m6' hc6
        obtain ⟨c6, b6', hc6, m6', hslo⟩ := hcut
        have hEz := hL7 _ m6'
        have hB36 : B3 ≠ B6 := fun q => by have := b3r.lt; omega
        have hBA6 : BA ≠ B6 := fun q => by have := bA.lt; omega
        have hBA3 : BA ≠ B3 := fun q => by have := hO3 B3 (Or.inr rfl); omega
        have b3z : Blk wc B3 8 112 c3 := (b3r.ext hE7).mod m6' hB36
        have bAz : Blk wc BA (WW.accts.length * 24) 121 cA := (bA.ext hE7).mod m6' hBA6
        have hc6a : ∀ j, j < 20 → c6 j = cf (av x.addr) j := fun j hj => by rw [hc6.out j (by omega)]; unfold acR; rw [cf_append, if_pos (by rw [av_size hax]; exact hj)]
        have hc620 : c6 20 = u1 := by rw [hc6.out 20 (by decide)]; exact acR_20 hax
        have hc621 : c6 21 = u2 := by rw [hc6.out 21 (by decide)]; exact acR_21 hax
        have hc622 : c6 22 = u3 := by rw [hc6.out 22 (by decide)]; exact acR_22 hax
        have hones6 : Ones (rowOf c6 0 24) := ones_of (fun q hq => by
          rw [rowOf_size] at hq
          rw [cf_rowOf _ _ _ hq, Nat.zero_add]
          rcases (show q < 20 ∨ q = 20 ∨ q = 21 ∨ q = 22 ∨ q = 23 by omega) with h | rfl | rfl | rfl | rfl
          · rw [hc6a q h]; exact Ones.get (r := av x.addr) (av_one _) (by rw [av_size hax]; exact h)
          · rw [hc620]; exact hn1.one
          · rw [hc621]; exact hn2.one
          · rw [hc622]; exact hn3.onec
          · exact grow_one hslo)
        go_wp2_with (first | ((with_reducible (refine Veil.out ?_; apply wl_loadB onet93')); (case hx => rfl); (case hB => exact b3z); (case hi => decide)) | ((with_reducible (refine Veil.out ?_; apply wl_loadRow rt108)); (case hx => rfl); (case hB => exact b6'); (case hi => decide)) | ((with_reducible (refine Veil.out ?_; apply wl_storeRow rt108)); (case hx => rfl); (case hy => rfl); (case hr => exact rowOf_size _ _ _); (case h1 => exact hones6); (case hB => exact bAz); (case hi => omega); rintro W15 b15 m15))
        go_roundw
        case rel =>
          have h9 := hi1.out
          have hne : ∀ b, ¬ (Wd (Wd (Wd O B2) B3) BA) b → ¬ b = BA := fun b hb q => hb (Or.inr q)
          have hne6 : ∀ b, ¬ Wd (Wd (Wd (Wd O B2) B3) BA) B6 b → ¬ b = B6 := fun b hb q => hb (Or.inr q)
          refine ⟨i1, rfl, by omega, b3z.mod m15 (fun q => hBA3 q.symm), (m3r.trans_ext hEz).trans' m15 (fun b hb => Or.inr (by rw [hb]; exact gA)), ?_⟩
          show Laid 121 24 W3.heap.size (fun B cc o x => YAC (Wd (Wd (Wd O B2) B3) B) W15 cc o x) W15 (c3 0) WW.accts i1
          refine Or.inr ⟨BA, _, hvA, b15, gA, fun k hk h2 => ?_⟩
          by_cases e : k = i
          · subst e
            rw [hx.out]
            have g24 : ∀ j, j < 24 → layv cA (k * 24) (rowOf c6 0 24) (k * 24 + j) = c6 j := fun j hj => by rw [layv_in _ _ _ (by rw [rowOf_size]; exact hj), cf_rowOf _ _ _ hj, Nat.zero_add]
            refine ⟨fun j u hu => ?_, hax, ?_, ?_, ?_, ?_⟩
            · have hj := (Array.getElem?_eq_some_iff.1 hu).1
              rw [av_size hax] at hj
              rw [g24 j (by omega), hc6a j hj]; exact cf_get hu
            · rw [g24 20 (by decide), hc620]; exact ((hn1.keep m6' hne6).narrow).keep m15 hne
            · rw [g24 21 (by decide), hc621]; exact ((hn2.keep m6' hne6).narrow).keep m15 hne
            · rw [g24 22 (by decide), hc622]; exact ((hn3.keep m6' hne6).narrow).keep m15 hne
            · rw [g24 23 (by decide)]; exact hslo.thin.keepc m15 hne
          · refine ((hdone k (by omega) h2).liftc hEz m15 hne).cellsc (fun j hj => ?_)
            rw [layv_out _ _ _ (by rw [rowOf_size]; omega)]
        case measure => have h9 := hi1.out; simp [intOf]; omega
      · have z1 : ¬ (i : Int) < WW.accts.length := by omega
        obtain rfl : i = WW.accts.length := by omega
        go_wp2
        go_meet
        case rel =>
          refine ⟨c3, b3r, hc3, m3r, ?_⟩
          rcases hlaid.out with ⟨q1, q2⟩ | ⟨BA, cA, hvA, bA, gA, hdone⟩
          · exact Or.inl ⟨q1, q2⟩
          · exact Or.inr ⟨BA, _, cA, hvA, Nat.le_refl _, by omega, bA, fun q => Nat.lt_irrefl _ (Nat.lt_of_lt_of_le (hO3 _ q) gA), fun k hk => (hdone k hk hk).thin⟩
  case rest =>
  clear hlaid b3' m3 hc3
  obtain ⟨c3, b3', hc3, m3, hacc⟩ := hcut
  have hne3 : ∀ b, ¬ (Wd (Wd O B2) B3) b → ¬ b = B3 := fun b hb q => hb (Or.inr q)
  have hEw := hLE _ m3
  go_upto_region 18 with (first | ((with_reducible (refine Veil.out ?_; apply wl_loadB onet94')); (case hx => rfl); (case hB => exact hB.ext hEw); (case hi => decide)) | (go_at_call 227; refine (yAddrsOf (O := (Wd (Wd O B2) B3)) (hO3' _ m3) (GRow.ext hW3.warmA hEw (fun _ _ _ k => k)) (Nat.le_trans hlim.warmA (by decide))).mono ?_; rintro e w17 ⟨r1, rfl, hr1, he17⟩) | ((with_reducible (refine Veil.out ?_; apply wl_storeC onet94')); (case hx => rfl); (case hy => rfl); (case h1 => exact grow_one hr1); (case hB => exact b3'.ext he17); (case hi => decide); rintro W17 b17 m17))
  have m3a : Mod (· = B3) W3 W17 := (m3.trans_ext he17).trans m17
  have hEw := hLE _ m3a
  go_upto_region 19 with (first | ((with_reducible (refine Veil.out ?_; apply wl_loadB onet94')); (case hx => rfl); (case hB => exact hB.ext hEw); (case hi => decide)) | (go_at_call 227; refine (yAddrsOf (O := (Wd (Wd O B2) B3)) (hO3' _ m3a) (GRow.ext hW3.made hEw (fun _ _ _ k => k)) (Nat.le_trans hlim.made (by decide))).mono ?_; rintro e w18 ⟨r2, rfl, hr2, he18⟩) | ((with_reducible (refine Veil.out ?_; apply wl_storeC onet94')); (case hx => rfl); (case hy => rfl); (case h1 => exact grow_one hr2); (case hB => exact b17.ext he18); (case hi => decide); rintro W18 b18 m18))
  have m3b : Mod (· = B3) W3 W18 := (m3a.trans_ext he18).trans m18
  have hEw := hLE _ m3b
  go_upto_region 20 with (first | ((with_reducible (refine Veil.out ?_; apply wl_loadB onet94')); (case hx => rfl); (case hB => exact hB.ext hEw); (case hi => decide)) | (go_at_call 227; refine (yAddrsOf (O := (Wd (Wd O B2) B3)) (hO3' _ m3b) (GRow.ext hW3.gone hEw (fun _ _ _ k => k)) (Nat.le_trans hlim.gone (by decide))).mono ?_; rintro e w19 ⟨r3, rfl, hr3, he19⟩) | ((with_reducible (refine Veil.out ?_; apply wl_storeC onet94')); (case hx => rfl); (case hy => rfl); (case h1 => exact grow_one hr3); (case hB => exact b18.ext he19); (case hi => decide); rintro Wb b19 m19))
  have m3c : Mod (· = B3) W3 Wb := (m3b.trans_ext he19).trans m19
  have hEb := hLE _ m3c
  have hOb := hO3' _ m3c
  have hA1 : AddrL (Wd (Wd O B2) B3) Wb r1 WW.warmA := AddrL.keep (GRow.ext (AddrL.keep (GRow.ext (AddrL.keep hr1 m17 hne3) he18 (fun _ _ _ k => k)) m18 hne3) he19 (fun _ _ _ k => k)) m19 hne3
  have hA2 : AddrL (Wd (Wd O B2) B3) Wb r2 WW.made := AddrL.keep (GRow.ext (AddrL.keep hr2 m18 hne3) he19 (fun _ _ _ k => k)) m19 hne3
  have hA3 : AddrL (Wd (Wd O B2) B3) Wb r3 WW.gone := AddrL.keep hr3 m19 hne3
  have hacc' : AccL (Wd (Wd O B2) B3) Wb (c3 0) WW.accts := AccL.keep (AccL.ext (AccL.keep (AccL.ext (AccL.keep (AccL.ext hacc he17) m17 hne3) he18) m18 hne3) he19) m19 hne3
  obtain ⟨cb, ecb⟩ : ∃ z, Hid (updv (updv (updv c3 1 r1) 6 r2) 7 r3 = z) := ⟨_, rfl⟩
  have bb : Blk Wb B3 8 112 cb := by rw [← ecb.out]; exact b19
  have k0 : cb 0 = c3 0 := by rw [← ecb.out, updv_ne _ _ (by decide), updv_ne _ _ (by decide), updv_ne _ _ (by decide)]
  have k1 : cb 1 = r1 := by rw [← ecb.out, updv_ne _ _ (by decide), updv_ne _ _ (by decide), updv_same]
  have k6 : cb 6 = r2 := by rw [← ecb.out, updv_ne _ _ (by decide), updv_same]
  have k7 : cb 7 = r3 := by rw [← ecb.out, updv_same]
  have kk : ∀ j, j ≠ 0 → j ≠ 1 → j ≠ 6 → j ≠ 7 → cb j = cf (w8 u v) j := fun j h0 h1 h6 h7 => by rw [← ecb.out, updv_ne _ _ h7, updv_ne _ _ h6, updv_ne _ _ h1]; exact hc3.out j h0
  have hcb : cb 5 = .slice none 0 0 := (kk 5 (by decide) (by decide) (by decide) (by decide)).trans rfl
  have G0 : AccL (Wd (Wd O B2) B3) Wb (cb 0) WW.accts := by rw [k0]; exact hacc'
  have G1 : AddrL (Wd (Wd O B2) B3) Wb (cb 1) WW.warmA := by rw [k1]; exact hA1
  have G6 : AddrL (Wd (Wd O B2) B3) Wb (cb 6) WW.made := by rw [k6]; exact hA2
  have G7 : AddrL (Wd (Wd O B2) B3) Wb (cb 7) WW.gone := by rw [k7]; exact hA3
  have G3 : NV (Wd (Wd O B2) B3) Wb (cb 3) WW.refund := by rw [kk 3 (by decide) (by decide) (by decide) (by decide)]; exact hu.keep m3c hne3
  have G4 : LogL (fun b => ¬ (Wd (Wd O B2) B3) b) (Wd (Wd O B2) B3) Wb (cb 4) WW.logs := by rw [kk 4 (by decide) (by decide) (by decide) (by decide)]; exact LogL.keep hv m3c hne3 hne3
  have G4f : Full (cb 4) := by rw [kk 4 (by decide) (by decide) (by decide) (by decide)]; exact hfv
  have k2 : cb 2 = .slice none 0 0 := (kk 2 (by decide) (by decide) (by decide) (by decide)).trans rfl
  have b2b : Blk Wb B2 8 112 _ := b2'.mod m3c (fun q => hB32 q.symm)
  clear hacc hacc' hA1 hA2 hA3 k0 k1 k6 k7 kk ecb b19 b18 b17 hc3 hu hv hr1 hr2 hr3 m17 m18 m19 he17 he18 he19 m3a m3b m3 b2' b3' hEw hbn hsrc hc0 hc0' hO3' hLE
  obtain ⟨base, cap, hcX, hbn, hsrc⟩ := grow_split hwc.temps
  have hcX' : c 5 = .slice base WW.temps.length cap := hcX
  have hnil := fun W => run_neq_slice_nil (P := Hvah.prog) W 110 304 base WW.temps.length cap under97'
  go_upto_if 114 with ((with_reducible (refine Veil.out ?_; apply wl_loadB onet97')); (case hx => rfl); (case hB => exact hB.ext hEb); (case hi => decide))
  go_cut [] (fun wx => ∃ c3, Blk wx B3 8 112 c3 ∧ Hid (∀ i, i ≠ 5 → c3 i = cb i) ∧ Mod (· = B3) Wb wx ∧ Laid 304 22 Wb.heap.size (fun B cc o x => TmC (Wd (Wd (Wd O B2) B3) B) wx cc o x) wx (c3 5) WW.temps 0)
  case first =>
    cases base with
    | none =>
      have hem := hbn rfl
      go_wp2
      go_meet
      case rel => exact ⟨_, bb, (fun i hi => rfl : ∀ i, i ≠ 5 → cb i = cb i), Mod.refl _ _, Or.inl ⟨hem, hcb⟩⟩
    | some ad =>
      go_wp2_with (first | ((with_reducible (refine Veil.out ?_; apply wl_loadB onet97')); (case hx => rfl); (case hB => exact hB.ext hEb); (case hi => decide)) | ((with_reducible (refine Veil.out ?_; apply wl_makeR under97' el296 WW.temps.length)); (case hl => rfl); (case hc => rfl); (case hn => exact hnt); rintro BA W4 e4 b4 g4) | ((with_reducible (refine Veil.out ?_; apply wl_storeC onet97')); (case hx => rfl); (case hy => rfl); (case h1 => rfl); (case hB => exact bb.ext (by (repeat (first | with_reducible exact Ext.refl _ | with_reducible assumption | refine Ext.trans ?_ (by with_reducible assumption) | refine Ext.alloc ?_ _ _ | refine Ext.drew ?_ | refine Ext.drewN ?_ _)))); (case hi => decide); rintro W5 b5 m5))
      go_meet
      case rel => exact ⟨_, b5, (fun i hi => updv_ne _ _ hi : ∀ i, i ≠ 5 → updv cb 5 _ i = cb i), (e4.mod _).trans m5, Or.inr ⟨BA, _, updv_same _ _ _, b4.mod m5 (fun q => by have := bb.lt; omega), g4, fun k hk => absurd hk (Nat.not_lt_zero _)⟩⟩
  case rest =>
  obtain ⟨c3, b3', hc3, m3, hlaid⟩ := hcut
  clear hnil
  have hLb : ∀ W, Mod (· = B3) Wb W → Ext w W := fun W hW => Ext.trans_mod hEb hW (fun q hq => by have hq2 : q = B3 := hq; rw [hq2]; exact g3w)
  go_upto_block 4 with ((with_reducible (refine Veil.out ?_; apply wl_loadB onet97')); (case hx => rfl); (case hB => exact hB.ext (hLb _ m3)); (case hi => decide))
  go_cut [] (fun wx => ∃ c3, Blk wx B3 8 112 c3 ∧ Hid (∀ i, i ≠ 5 → c3 i = cb i) ∧ Mod (· = B3) Wb wx ∧ GRow 304 22 (TmC (Wd (Wd O B2) B3) wx) (fun b => ¬ (Wd (Wd O B2) B3) b) wx (c3 5) WW.temps)
  case first =>
    go_upto_region 23 with (fail)
    try simp only [Act.put]
    go_loopw [127] (fun iv wr => ∃ (i : Nat), iv = .int .i64 (i : Nat) ∧ i ≤ WW.temps.length ∧ Blk wr B3 8 112 c3 ∧ Mod (· = B3) Wb wr ∧ Hid (Laid 304 22 Wb.heap.size (fun B cc o x => TmC (Wd (Wd (Wd O B2) B3) B) wr cc o x) wr (c3 5) WW.temps i)) (fun iv _ => WW.temps.length - (intOf iv).toNat)
    case atStart => exact ⟨0, rfl, Nat.zero_le _, b3', m3, hlaid⟩
    case round =>
      clear hlaid b3' m3
      obtain ⟨i, rfl, hi, b3r, m3r, hlaid⟩ := hrel
      have hEr := hLb _ m3r
      rcases Nat.lt_or_ge i WW.temps.length with hlt | hge
      · have z1 : (i : Int) < WW.temps.length := by omega
        obtain ⟨b0, cs, rfl, hb0, hcap, hrow⟩ := hsrc (fun q => by rw [q] at hlt; cases hlt)
        rcases hlaid.out with ⟨q, _⟩ | ⟨BT, cT, hvT, bT, gT, hdone⟩
        · rw [q] at hlt; cases hlt
        clear hlaid
        have hri := hrow i hlt
        obtain ⟨x, hx⟩ : ∃ x, Hid (WW.temps[i] = x) := ⟨WW.temps[i], rfl⟩
        rw [hx.out] at hri
        have hones : Ones (rowOf cs (i * 22) 22) := ones_of (fun q hq => by
          rw [rowOf_size] at hq
          rw [cf_rowOf _ _ _ hq]
          rcases (show q < 20 ∨ q = 20 ∨ q = 21 by omega) with h | rfl | rfl
          · exact aat_onec hri.addr hri.aLt q h
          · exact hri.key.one
          · exact hri.val.one)
        have j1 : IntKind.i64.wrap ((i : Int) + 1) = ((i + 1 : Nat) : Int) := by rw [IntKind.wrap_i64]; omega
        obtain ⟨i1, hi1⟩ : ∃ z : Nat, Hid ((i + 1 : Nat) = z) := ⟨_, rfl⟩
        rw [hi1.out] at j1
        go_upto_region 25 with (first | ((with_reducible (refine Veil.out ?_; apply wl_loadRow rt296)); (case hx => rfl); (case hB => exact hb0.ext hEr); (case hi => omega)) | ((with_reducible (refine Veil.out ?_; apply wl_allocB zero296')); (case hn => exact tmR_size (by decide) _ _); rintro B5 W5 e5 b5 g5) | ((with_reducible (refine Veil.out ?_; apply wl_storeRow rt296)); (case hx => rfl); (case hy => rfl); (case hr => exact rowOf_size _ _ _); (case h1 => exact hones); (case hB => exact b5); (case hi => decide); rintro W6 b6 m6))
        have hE6 : Ext wr W6 := Ext.trans_mod e5 m6 (fun q hq => by have hq2 : q = B5 := hq; rw [hq2]; exact g5)
        obtain ⟨cL, hcL⟩ : ∃ z, Hid (layv (cf (tmR 0 (.slice none 0 0) (.slice none 0 0))) 0 (rowOf cs (i * 22) 22) = z) := ⟨_, rfl⟩
        have hLc : ∀ j, j < 22 → cL j = cs (i * 22 + j) := fun j hj => by
          rw [← hcL.out, layv_atc _ _ _ _ (Nat.zero_le _) (by rw [rowOf_size]; omega), Nat.sub_zero, cf_rowOf _ _ _ hj]
        have bL : Blk W6 B5 22 304 cL := by rw [← hcL.out]; exact b6
        have hLa : AAt cL 0 x.1 := fun j u hu => by
          have hj := (Array.getElem?_eq_some_iff.1 hu).1
          rw [av_size hri.aLt] at hj
          rw [Nat.zero_add, hLc j (by omega)]
          exact hri.addr j u hu
        have hL20 : cL 20 = cs (i * 22 + 20) := hLc 20 (by decide)
        have hL21 : cL 21 = cs (i * 22 + 21) := hLc 21 (by decide)
        have hax := hri.aLt
        obtain ⟨lk, hlk, hlk2⟩ := hri.key
        obtain ⟨lv, hlv, hlv2⟩ := hri.val
        have hBL : ¬ B5 = BT := fun q => by have := bT.lt; omega
        have hB3T : ¬ B3 = BT := fun q => by have := hOb B3 (Or.inr rfl); omega
        have hOT : Small (Wd (Wd (Wd O B2) B3) BT) W6 := Small.wd3 (fun b hb => Nat.lt_of_lt_of_le (hOb b hb) m3r.size) hE6 (bT.ext hE6)
        clear hLc hcL b6 e5 m6 hones hrow hri
        generalize cs (i * 22 + 20) = s20 at *
        generalize cs (i * 22 + 21) = s21 at *
        refine w_ext ?_
        rintro W0 hW0
        refine wp_region_held_drew (S := fun w' => Mod (fun x => x = BT) W0 w') (by kernel_rfl) (Mod.refl _ _).drew (fun hHeld => ?_)
        have HH : Hid (Mod (fun x => x = BT) W0 _) := hHeld
        clear hHeld
        refine wpAnyH_take (i := 0) (v := ?_) rfl (by kernel_rfl) (by kernel_rfl) (by kernel_rfl) (fun _ _ _ h => h) (Or.inl ⟨by rfl, ?_⟩) HH.out ?_
        rotate_left
        · intro w hSw; go_simp; try with_reducible rfl
        change wpAnyH _ _ _ _ _ _ _ (Act.put _ (some 132) _) _
        simp only [Act.put, List.setIfInBounds_toArray, List.set_cons_zero, List.set_cons_succ]
        refine wpAnyH_take (i := 1) rfl (by kernel_rfl) (by kernel_rfl) (by kernel_rfl) (fun _ _ _ h => h) (yieldsIf_load1 (by rfl) _ _ rfl _ _ rfl onet97' _ (fun w hSw => by rw [(Blk.mod (b3r.ext (by (repeat (first | with_reducible exact Ext.refl _ | with_reducible assumption | refine Ext.trans ?_ (by with_reducible assumption) | refine Ext.alloc ?_ _ _ | refine Ext.drew ?_ | refine Ext.drewN ?_ _)))) hSw hB3T).cell (by decide), hvT])) HH.out ?_
        change wpAnyH _ _ _ _ _ _ _ (Act.put _ (some 133) _) _
        simp only [Act.put, List.setIfInBounds_toArray, List.set_cons_zero, List.set_cons_succ]
        refine wpAnyH_take (i := 2) (v := ?_) rfl (by kernel_rfl) (by kernel_rfl) (by kernel_rfl) (fun _ _ _ h => h) (Or.inl ⟨by rfl, ?_⟩) HH.out ?_
        rotate_left
        · intro w hSw; go_simp; try with_reducible rfl
        change wpAnyH _ _ _ _ _ _ _ (Act.put _ (some 134) _) _
        simp only [Act.put, List.setIfInBounds_toArray, List.set_cons_zero, List.set_cons_succ]
        refine wpAnyH_take (i := 3) (v := ?_) rfl (by kernel_rfl) (by kernel_rfl) (by kernel_rfl) (fun _ _ _ h => h) (Or.inl ⟨by rfl, ?_⟩) HH.out ?_
        rotate_left
        · intro w hSw; go_simp; try with_reducible rfl
        change wpAnyH _ _ _ _ _ _ _ (Act.put _ (some 135) _) _
        simp only [Act.put, List.setIfInBounds_toArray, List.set_cons_zero, List.set_cons_succ]
        refine wpAnyH_take (i := 4) rfl (by kernel_rfl) (by kernel_rfl) (by kernel_rfl) (fun _ _ _ h => h) (yields_A (by rfl) rfl rfl (fun W hW => Blk.mod (bL.ext (by (repeat (first | with_reducible exact Ext.refl _ | with_reducible assumption | refine Ext.trans ?_ (by with_reducible assumption) | refine Ext.alloc ?_ _ _ | refine Ext.drew ?_ | refine Ext.drewN ?_ _)))) hW hBL) hLa hax (by decide)) HH.out ?_
        change wpAnyH _ _ _ _ _ _ _ (Act.put _ (some 136) _) _
        simp only [Act.put, List.setIfInBounds_toArray, List.set_cons_zero, List.set_cons_succ]
        refine wpAnyH_take (i := 5) (v := ?_) rfl (by kernel_rfl) (by kernel_rfl) (by kernel_rfl) (fun _ _ _ h => h) (Or.inl ⟨by rfl, ?_⟩) HH.out ?_
        rotate_left
        · intro w hSw; go_simp; try with_reducible rfl
        change wpAnyH _ _ _ _ _ _ _ (Act.put _ (some 137) _) _
        simp only [Act.put, List.setIfInBounds_toArray, List.set_cons_zero, List.set_cons_succ]
        refine wpAnyH_take (i := 6) rfl (by kernel_rfl) (by kernel_rfl) (by kernel_rfl) (fun _ _ _ h => h) (yieldsIf_load1 (by rfl) _ _ rfl _ _ rfl onet96' _ (fun w hSw => by rw [(Blk.mod (bL.ext (by (repeat (first | with_reducible exact Ext.refl _ | with_reducible assumption | refine Ext.trans ?_ (by with_reducible assumption) | refine Ext.alloc ?_ _ _ | refine Ext.drew ?_ | refine Ext.drewN ?_ _)))) hSw hBL).cell (by decide), hL20])) HH.out ?_
        change wpAnyH _ _ _ _ _ _ _ (Act.put _ (some 138) _) _
        simp only [Act.put, List.setIfInBounds_toArray, List.set_cons_zero, List.set_cons_succ]
        refine wpAnyH_take (i := 8) (v := ?_) rfl (by kernel_rfl) (by kernel_rfl) (by kernel_rfl) (fun _ _ _ h => h) (Or.inl ⟨by rfl, ?_⟩) HH.out ?_
        rotate_left
        · intro w hSw; go_simp; try with_reducible rfl
        change wpAnyH _ _ _ _ _ _ _ (Act.put _ (some 140) _) _
        simp only [Act.put, List.setIfInBounds_toArray, List.set_cons_zero, List.set_cons_succ]
        refine wpAnyH_take (i := 9) rfl (by kernel_rfl) (by kernel_rfl) (by kernel_rfl) (fun _ _ _ h => h) (yieldsIf_load1 (by rfl) _ _ rfl _ _ rfl onet96' _ (fun w hSw => by rw [(Blk.mod (bL.ext (by (repeat (first | with_reducible exact Ext.refl _ | with_reducible assumption | refine Ext.trans ?_ (by with_reducible assumption) | refine Ext.alloc ?_ _ _ | refine Ext.drew ?_ | refine Ext.drewN ?_ _)))) hSw hBL).cell (by decide), hL21])) HH.out ?_
        change wpAnyH _ _ _ _ _ _ _ (Act.put _ (some 141) _) _
        simp only [Act.put, List.setIfInBounds_toArray, List.set_cons_zero, List.set_cons_succ]
        refine wpAnyH_ready (rs := [7]) (by kernel_rfl) (by simp) ?_
        refine AllReadyH.cons rfl (fun K hK => ?_) AllReadyH.nil
        go_simp
        go_at_call 226; refine (yNatOf (O := Wd (Wd (Wd O B2) B3) BT) (hOT.ext (by (repeat (first | with_reducible exact Ext.refl _ | with_reducible assumption | refine Ext.trans ?_ (by with_reducible assumption) | refine Ext.alloc ?_ _ _ | refine Ext.drew ?_ | refine Ext.drewN ?_ _)))) (hlk.ext (by (repeat (first | with_reducible exact Ext.refl _ | with_reducible assumption | refine Ext.trans ?_ (by with_reducible assumption) | refine Ext.alloc ?_ _ _ | refine Ext.drew ?_ | refine Ext.drewN ?_ _))))).mono ?_; rintro e w8 ⟨k1, rfl, hk1, he⟩
        refine hK.out _ _ ?_ (fun hHeld => ?_)
        · first | exact HH.out.trans hmY | exact HH.out.trans_ext he | exact HH.out
        clear hK K HH
        have HH : Hid (Mod (fun x => x = BT) W0 _) := hHeld
        clear hHeld
        refine wpAnyH_ready (rs := [10]) (by kernel_rfl) (by simp) ?_
        refine AllReadyH.cons rfl (fun K hK => ?_) AllReadyH.nil
        go_simp
        go_at_call 226; refine (yNatOf (O := Wd (Wd (Wd O B2) B3) BT) (hOT.ext (by (repeat (first | with_reducible exact Ext.refl _ | with_reducible assumption | refine Ext.trans ?_ (by with_reducible assumption) | refine Ext.alloc ?_ _ _ | refine Ext.drew ?_ | refine Ext.drewN ?_ _)))) (hlv.ext (by (repeat (first | with_reducible exact Ext.refl _ | with_reducible assumption | refine Ext.trans ?_ (by with_reducible assumption) | refine Ext.alloc ?_ _ _ | refine Ext.drew ?_ | refine Ext.drewN ?_ _))))).mono ?_; rintro e w9 ⟨k2, rfl, hk2, he⟩
        refine hK.out _ _ ?_ (fun hHeld => ?_)
        · first | exact HH.out.trans hmY | exact HH.out.trans_ext he | exact HH.out
        clear hK K HH
        have HH : Hid (Mod (fun x => x = BT) W0 _) := hHeld
        clear hHeld
        refine wpAnyH_take (i := 11) rfl (by kernel_rfl) (by kernel_rfl) (by kernel_rfl) (fun _ _ _ h => h) (yields_build (by rfl) rfl (b296 hax hk1.onec hk2.onec) (by simp [Act.eval])) HH.out ?_
        change wpAnyH _ _ _ _ _ _ _ (Act.put _ (some 143) _) _
        simp only [Act.put, List.setIfInBounds_toArray, List.set_cons_zero, List.set_cons_succ]
        refine wpAnyH_take (i := 12) (v := ?_) rfl (by kernel_rfl) (by kernel_rfl) (by kernel_rfl) (fun _ _ _ h => h) (Or.inl ⟨by rfl, ?_⟩) HH.out ?_
        rotate_left
        · intro w hSw; go_simp; try with_reducible rfl
        change wpAnyH _ _ _ _ _ _ _ (Act.put _ (some 144) _) _
        simp only [Act.put, List.setIfInBounds_toArray, List.set_cons_zero, List.set_cons_succ]
        refine wpAnyH_ready (rs := [13]) (by kernel_rfl) (by simp) ?_
        refine AllReadyH.cons rfl (fun K hK => ?_) AllReadyH.nil
        refine step_any rfl (op_storeRow rfl rt296 rfl rfl (tmR_size hax _ _) (tmR_one hk1.onec hk2.onec) (bT.ext (by (repeat (first | with_reducible exact Ext.refl _ | with_reducible assumption | refine Ext.trans ?_ (by with_reducible assumption) | refine Ext.alloc ?_ _ _ | refine Ext.drew ?_ | refine Ext.drewN ?_ _)))) (by omega) ?_)
        rintro W12 b12 m12
        refine hK.out _ _ ?_ (fun hHeld => ?_)
        · exact HH.out.trans m12
        clear hK K HH
        have HH : Hid (Mod (fun x => x = BT) W0 _) := hHeld
        clear hHeld
        change wpAnyH _ _ _ _ _ _ _ (Act.put _ none _) _
        simp only [Act.put, List.setIfInBounds_toArray, List.set_cons_zero, List.set_cons_succ]
        refine wpAnyH_done (by kernel_rfl) ?_ _
        go_wp2
        go_roundw
        case rel =>
          have h9 := hi1.out
          have hwr : Ext wr w9 := by (repeat (first | with_reducible exact Ext.refl _ | with_reducible assumption | refine Ext.trans ?_ (by with_reducible assumption) | refine Ext.alloc ?_ _ _ | refine Ext.drew ?_ | refine Ext.drewN ?_ _))
          have hne : ∀ b, ¬ Wd (Wd (Wd O B2) B3) BT b → ¬ b = BT := fun b hb q => hb (Or.inr q)
          refine ⟨i1, rfl, by omega, (b3r.ext hwr).mod m12 hB3T, (m3r.trans_ext hwr).trans' m12 (fun b hb => Or.inr (by rw [hb]; exact gT)), ?_⟩
          show Laid 304 22 Wb.heap.size (fun B cc o x => TmC (Wd (Wd (Wd O B2) B3) B) W12 cc o x) W12 (c3 5) WW.temps i1
          refine Or.inr ⟨BT, _, hvT, b12, gT, fun k hk h2 => ?_⟩
          by_cases e : k = i
          · subst e
            rw [hx.out]
            have g22 : ∀ j, j < 22 → layv cT (k * 22) (tmR x.1 k1 k2) (k * 22 + j) = cf (tmR x.1 k1 k2) j := fun j hj => layv_in _ _ _ (by rw [tmR_size hax _ _]; exact hj)
            refine ⟨fun j u hu => ?_, hax, ?_, ?_⟩
            · have hj := (Array.getElem?_eq_some_iff.1 hu).1
              rw [av_size hax] at hj
              rw [g22 j (by omega)]
              unfold tmR
              rw [cf_append, if_pos (by rw [av_size hax]; exact hj)]
              exact cf_get hu
            · rw [g22 20 (by decide), show cf (tmR x.1 k1 k2) 20 = k1 by unfold tmR; rw [cf_append, if_neg (by rw [av_size hax]; omega), av_size hax]; rfl]
              exact ⟨lk, (hk1.ext (by (repeat (first | with_reducible exact Ext.refl _ | with_reducible assumption | refine Ext.trans ?_ (by with_reducible assumption) | refine Ext.alloc ?_ _ _ | refine Ext.drew ?_ | refine Ext.drewN ?_ _)))).keep m12 hne, hlk2⟩
            · rw [g22 21 (by decide), show cf (tmR x.1 k1 k2) 21 = k2 by unfold tmR; rw [cf_append, if_neg (by rw [av_size hax]; omega), av_size hax]; rfl]
              exact ⟨lv, hk2.keep m12 hne, hlv2⟩
          · refine ((hdone k (by omega) h2).liftc hwr m12 hne).cellsc (fun j hj => ?_)
            rw [layv_out _ _ _ (by rw [tmR_size hax _ _]; omega)]
        case measure => have h9 := hi1.out; simp [intOf]; omega
      · have z1 : ¬ (i : Int) < WW.temps.length := by omega
        obtain rfl : i = WW.temps.length := by omega
        go_wp2
        go_meet
        case rel =>
          refine ⟨c3, b3r, hc3, m3r, ?_⟩
          rcases hlaid.out with ⟨q1, q2⟩ | ⟨BT, cT, hvT, bT, gT, hdone⟩
          · exact Or.inl ⟨q1, q2⟩
          · exact Or.inr ⟨BT, _, cT, hvT, Nat.le_refl _, by omega, bT, fun q => Nat.lt_irrefl _ (Nat.lt_of_lt_of_le (hOb _ q) gT), fun k hk => (hdone k hk hk).thinc⟩
  case rest =>
  clear hlaid b3' m3 hc3
  obtain ⟨c3, b3', hc3, m3, hres⟩ := hcut
  -- the marks
  have hB3b := m3
  have H0 : AccL (Wd (Wd O B2) B3) wc (cb 0) WW.accts := AccL.keep G0 m3 hne3
  have H1 : AddrL (Wd (Wd O B2) B3) wc (cb 1) WW.warmA := AddrL.keep G1 m3 hne3
  have H6 : AddrL (Wd (Wd O B2) B3) wc (cb 6) WW.made := AddrL.keep G6 m3 hne3
  have H7 : AddrL (Wd (Wd O B2) B3) wc (cb 7) WW.gone := AddrL.keep G7 m3 hne3
  have H3 : NV (Wd (Wd O B2) B3) wc (cb 3) WW.refund := G3.keep m3 hne3
  have H4 : LogL (fun b => ¬ (Wd (Wd O B2) B3) b) (Wd (Wd O B2) B3) wc (cb 4) WW.logs := LogL.keep G4 m3 hne3 hne3
  have hEc := hLb _ m3
  have hOc : Small (Wd (Wd O B2) B3) wc := fun b hb => Nat.lt_of_lt_of_le (hOb b hb) m3.size
  have b2c : Blk wc B2 8 112 _ := b2b.mod m3 (fun q => hB32 q.symm)
  have c30 : c3 0 = cb 0 := hc3.out 0 (by decide)
  have c31 : c3 1 = cb 1 := hc3.out 1 (by decide)
  have c32 : c3 2 = cb 2 := hc3.out 2 (by decide)
  have c33 : c3 3 = cb 3 := hc3.out 3 (by decide)
  have c34 : c3 4 = cb 4 := hc3.out 4 (by decide)
  have c36 : c3 6 = cb 6 := hc3.out 6 (by decide)
  have c37 : c3 7 = cb 7 := hc3.out 7 (by decide)
  have G0m : AccL (Wd (Wd O B2) B3) wc (c3 0) WW.accts := by rw [c30]; exact H0
  have G1m : AddrL (Wd (Wd O B2) B3) wc (c3 1) WW.warmA := by rw [c31]; exact H1
  have G6m : AddrL (Wd (Wd O B2) B3) wc (c3 6) WW.made := by rw [c36]; exact H6
  have G7m : AddrL (Wd (Wd O B2) B3) wc (c3 7) WW.gone := by rw [c37]; exact H7
  have G3m : NV (Wd (Wd O B2) B3) wc (c3 3) WW.refund := by rw [c33]; exact H3
  have G4m : LogL (fun b => ¬ (Wd (Wd O B2) B3) b) (Wd (Wd O B2) B3) wc (c3 4) WW.logs := by rw [c34]; exact H4
  have G4fm : Full (c3 4) := by rw [c34]; exact G4f
  have G5m : TmpL 304 (Wd (Wd O B2) B3) wc (c3 5) WW.temps := hres
  have hcm2 : c3 2 = .slice none 0 0 := by rw [c32]; exact k2
  clear H0 H1 H6 H7 H3 H4 c30 c31 c32 c33 c34 c36 c37 hres hc3 G0 G1 G6 G7 G3 G4 G4f k2 hcb bb hB3b hEb hOb m3c b2b hLb hbn hsrc hcX hcX'
  obtain ⟨Wm, eWm⟩ : ∃ W, W = wc := ⟨_, rfl⟩
  subst eWm
  obtain ⟨cm, ecm⟩ : ∃ z, z = c3 := ⟨_, rfl⟩
  subst ecm
  have bm := b3'
  have hEm := hEc
  have hOm := hOc
  clear b3' hEc hOc m3
  obtain ⟨base, cap, hcX, hbn, hsrc⟩ := grow_split hwc.warmS
  have hcX' : c 2 = .slice base WW.warmS.length cap := hcX
  have hnil := fun W => run_neq_slice_nil (P := Hvah.prog) W 108 241 base WW.warmS.length cap under95'
  go_upto_if 150 with ((with_reducible (refine Veil.out ?_; apply wl_loadB onet95')); (case hx => rfl); (case hB => exact hB.ext hEm); (case hi => decide))
  go_cut [] (fun wx => ∃ c3, Blk wx B3 8 112 c3 ∧ Hid (∀ i, i ≠ 2 → c3 i = cm i) ∧ Mod (· = B3) Wm wx ∧ Laid 241 21 Wm.heap.size (fun B cc o x => MkC (Wd (Wd (Wd O B2) B3) B) wx cc o x) wx (c3 2) WW.warmS 0)
  case first =>
    cases base with
    | none =>
      have hem := hbn rfl
      go_wp2
      go_meet
      case rel => exact ⟨_, bm, (fun i hi => rfl : ∀ i, i ≠ 2 → cm i = cm i), Mod.refl _ _, Or.inl ⟨hem, hcm2⟩⟩
    | some ad =>
      go_wp2_with (first | ((with_reducible (refine Veil.out ?_; apply wl_loadB onet95')); (case hx => rfl); (case hB => exact hB.ext hEm); (case hi => decide)) | ((with_reducible (refine Veil.out ?_; apply wl_makeR under95' el233 WW.warmS.length)); (case hl => rfl); (case hc => rfl); (case hn => exact hnm); rintro BA W4 e4 b4 g4) | ((with_reducible (refine Veil.out ?_; apply wl_storeC onet95')); (case hx => rfl); (case hy => rfl); (case h1 => rfl); (case hB => exact bm.ext (by (repeat (first | with_reducible exact Ext.refl _ | with_reducible assumption | refine Ext.trans ?_ (by with_reducible assumption) | refine Ext.alloc ?_ _ _ | refine Ext.drew ?_ | refine Ext.drewN ?_ _)))); (case hi => decide); rintro W5 b5 m5))
      go_meet
      case rel => exact ⟨_, b5, (fun i hi => updv_ne _ _ hi : ∀ i, i ≠ 2 → updv cm 2 _ i = cm i), (e4.mod _).trans m5, Or.inr ⟨BA, _, updv_same _ _ _, b4.mod m5 (fun q => by have := bm.lt; omega), g4, fun k hk => absurd hk (Nat.not_lt_zero _)⟩⟩
  case rest =>
  obtain ⟨c3, b3', hc3, m3, hlaid⟩ := hcut
  clear hnil
  have hLm : ∀ W, Mod (· = B3) Wm W → Ext w W := fun W hW => Ext.trans_mod hEm hW (fun q hq => by have hq2 : q = B3 := hq; rw [hq2]; exact g3w)
  go_upto_block 6 with ((with_reducible (refine Veil.out ?_; apply wl_loadB onet95')); (case hx => rfl); (case hB => exact hB.ext (hLm _ m3)); (case hi => decide))
  go_cut [] (fun wx => ∃ c3, Blk wx B3 8 112 c3 ∧ Hid (∀ i, i ≠ 2 → c3 i = cm i) ∧ Mod (· = B3) Wm wx ∧ GRow 241 21 (MkC (Wd (Wd O B2) B3) wx) (fun b => ¬ (Wd (Wd O B2) B3) b) wx (c3 2) WW.warmS)
  case first =>
    go_upto_region 30 with (fail)
    try simp only [Act.put]
    go_loopw [163] (fun iv wr => ∃ (i : Nat), iv = .int .i64 (i : Nat) ∧ i ≤ WW.warmS.length ∧ Blk wr B3 8 112 c3 ∧ Mod (· = B3) Wm wr ∧ Hid (Laid 241 21 Wm.heap.size (fun B cc o x => MkC (Wd (Wd (Wd O B2) B3) B) wr cc o x) wr (c3 2) WW.warmS i)) (fun iv _ => WW.warmS.length - (intOf iv).toNat)
    case atStart => exact ⟨0, rfl, Nat.zero_le _, b3', m3, hlaid⟩
    case round =>
      clear hlaid b3' m3
      obtain ⟨i, rfl, hi, b3r, m3r, hlaid⟩ := hrel
      have hEr := hLm _ m3r
      rcases Nat.lt_or_ge i WW.warmS.length with hlt | hge
      · have z1 : (i : Int) < WW.warmS.length := by omega
        obtain ⟨b0, cs, rfl, hb0, hcap, hrow⟩ := hsrc (fun q => by rw [q] at hlt; cases hlt)
        rcases hlaid.out with ⟨q, _⟩ | ⟨BT, cT, hvT, bT, gT, hdone⟩
        · rw [q] at hlt; cases hlt
        clear hlaid
        have hri := hrow i hlt
        obtain ⟨x, hx⟩ : ∃ x, Hid (WW.warmS[i] = x) := ⟨WW.warmS[i], rfl⟩
        rw [hx.out] at hri
        have hones : Ones (rowOf cs (i * 21) 21) := ones_of (fun q hq => by
          rw [rowOf_size] at hq
          rw [cf_rowOf _ _ _ hq]
          rcases (show q < 20 ∨ q = 20 by omega) with h | rfl
          · exact aat_onec hri.addr hri.aLt q h
          · exact hri.key.one)
        have j1 : IntKind.i64.wrap ((i : Int) + 1) = ((i + 1 : Nat) : Int) := by rw [IntKind.wrap_i64]; omega
        obtain ⟨i1, hi1⟩ : ∃ z : Nat, Hid ((i + 1 : Nat) = z) := ⟨_, rfl⟩
        rw [hi1.out] at j1
        go_upto_region 32 with (first | ((with_reducible (refine Veil.out ?_; apply wl_loadRow rt233)); (case hx => rfl); (case hB => exact hb0.ext hEr); (case hi => omega)) | ((with_reducible (refine Veil.out ?_; apply wl_allocB zero233')); (case hn => exact mkR_size (by decide) _); rintro B5 W5 e5 b5 g5) | ((with_reducible (refine Veil.out ?_; apply wl_storeRow rt233)); (case hx => rfl); (case hy => rfl); (case hr => exact rowOf_size _ _ _); (case h1 => exact hones); (case hB => exact b5); (case hi => decide); rintro W6 b6 m6))
        have hE6 : Ext wr W6 := Ext.trans_mod e5 m6 (fun q hq => by have hq2 : q = B5 := hq; rw [hq2]; exact g5)
        obtain ⟨cL, hcL⟩ : ∃ z, Hid (layv (cf (mkR 0 (.slice none 0 0))) 0 (rowOf cs (i * 21) 21) = z) := ⟨_, rfl⟩
        have hLc : ∀ j, j < 21 → cL j = cs (i * 21 + j) := fun j hj => by
          rw [← hcL.out, layv_atc _ _ _ _ (Nat.zero_le _) (by rw [rowOf_size]; omega), Nat.sub_zero, cf_rowOf _ _ _ hj]
        have bL : Blk W6 B5 21 241 cL := by rw [← hcL.out]; exact b6
        have hLa : AAt cL 0 x.1 := fun j u hu => by
          have hj := (Array.getElem?_eq_some_iff.1 hu).1
          rw [av_size hri.aLt] at hj
          rw [Nat.zero_add, hLc j (by omega)]
          exact hri.addr j u hu
        have hL20 : cL 20 = cs (i * 21 + 20) := hLc 20 (by decide)
        have hax := hri.aLt
        obtain ⟨lk, hlk, hlk2⟩ := hri.key
        have hBL : ¬ B5 = BT := fun q => by have := bT.lt; omega
        have hB3T : ¬ B3 = BT := fun q => by have := hOm B3 (Or.inr rfl); omega
        have hOT : Small (Wd (Wd (Wd O B2) B3) BT) W6 := Small.wd3 (fun b hb => Nat.lt_of_lt_of_le (hOm b hb) m3r.size) hE6 (bT.ext hE6)
        clear hLc hcL b6 e5 m6 hones hrow hri
        generalize cs (i * 21 + 20) = s20 at *
        refine w_ext ?_
        rintro W0 hW0
        refine wp_region_held_drew (S := fun w' => Mod (fun x => x = BT) W0 w') (by kernel_rfl) (Mod.refl _ _).drew (fun hHeld => ?_)
        have HH : Hid (Mod (fun x => x = BT) W0 _) := hHeld
        clear hHeld
        refine wpAnyH_take (i := 0) (v := ?_) rfl (by kernel_rfl) (by kernel_rfl) (by kernel_rfl) (fun _ _ _ h => h) (Or.inl ⟨by rfl, ?_⟩) HH.out ?_
        rotate_left
        · intro w hSw; go_simp; try with_reducible rfl
        change wpAnyH _ _ _ _ _ _ _ (Act.put _ (some 168) _) _
        simp only [Act.put, List.setIfInBounds_toArray, List.set_cons_zero, List.set_cons_succ]
        refine wpAnyH_take (i := 1) rfl (by kernel_rfl) (by kernel_rfl) (by kernel_rfl) (fun _ _ _ h => h) (yieldsIf_load1 (by rfl) _ _ rfl _ _ rfl onet95' _ (fun w hSw => by rw [(Blk.mod (b3r.ext (by (repeat (first | with_reducible exact Ext.refl _ | with_reducible assumption | refine Ext.trans ?_ (by with_reducible assumption) | refine Ext.alloc ?_ _ _ | refine Ext.drew ?_ | refine Ext.drewN ?_ _)))) hSw hB3T).cell (by decide), hvT])) HH.out ?_
        change wpAnyH _ _ _ _ _ _ _ (Act.put _ (some 169) _) _
        simp only [Act.put, List.setIfInBounds_toArray, List.set_cons_zero, List.set_cons_succ]
        refine wpAnyH_take (i := 2) (v := ?_) rfl (by kernel_rfl) (by kernel_rfl) (by kernel_rfl) (fun _ _ _ h => h) (Or.inl ⟨by rfl, ?_⟩) HH.out ?_
        rotate_left
        · intro w hSw; go_simp; try with_reducible rfl
        change wpAnyH _ _ _ _ _ _ _ (Act.put _ (some 170) _) _
        simp only [Act.put, List.setIfInBounds_toArray, List.set_cons_zero, List.set_cons_succ]
        refine wpAnyH_take (i := 3) (v := ?_) rfl (by kernel_rfl) (by kernel_rfl) (by kernel_rfl) (fun _ _ _ h => h) (Or.inl ⟨by rfl, ?_⟩) HH.out ?_
        rotate_left
        · intro w hSw; go_simp; try with_reducible rfl
        change wpAnyH _ _ _ _ _ _ _ (Act.put _ (some 171) _) _
        simp only [Act.put, List.setIfInBounds_toArray, List.set_cons_zero, List.set_cons_succ]
        refine wpAnyH_take (i := 4) rfl (by kernel_rfl) (by kernel_rfl) (by kernel_rfl) (fun _ _ _ h => h) (yields_A (by rfl) rfl rfl (fun W hW => Blk.mod (bL.ext (by (repeat (first | with_reducible exact Ext.refl _ | with_reducible assumption | refine Ext.trans ?_ (by with_reducible assumption) | refine Ext.alloc ?_ _ _ | refine Ext.drew ?_ | refine Ext.drewN ?_ _)))) hW hBL) hLa hax (by decide)) HH.out ?_
        change wpAnyH _ _ _ _ _ _ _ (Act.put _ (some 172) _) _
        simp only [Act.put, List.setIfInBounds_toArray, List.set_cons_zero, List.set_cons_succ]
        refine wpAnyH_take (i := 5) (v := ?_) rfl (by kernel_rfl) (by kernel_rfl) (by kernel_rfl) (fun _ _ _ h => h) (Or.inl ⟨by rfl, ?_⟩) HH.out ?_
        rotate_left
        · intro w hSw; go_simp; try with_reducible rfl
        change wpAnyH _ _ _ _ _ _ _ (Act.put _ (some 173) _) _
        simp only [Act.put, List.setIfInBounds_toArray, List.set_cons_zero, List.set_cons_succ]
        refine wpAnyH_take (i := 6) rfl (by kernel_rfl) (by kernel_rfl) (by kernel_rfl) (fun _ _ _ h => h) (yieldsIf_load1 (by rfl) _ _ rfl _ _ rfl onet96' _ (fun w hSw => by rw [(Blk.mod (bL.ext (by (repeat (first | with_reducible exact Ext.refl _ | with_reducible assumption | refine Ext.trans ?_ (by with_reducible assumption) | refine Ext.alloc ?_ _ _ | refine Ext.drew ?_ | refine Ext.drewN ?_ _)))) hSw hBL).cell (by decide), hL20])) HH.out ?_
        change wpAnyH _ _ _ _ _ _ _ (Act.put _ (some 174) _) _
        simp only [Act.put, List.setIfInBounds_toArray, List.set_cons_zero, List.set_cons_succ]
        refine wpAnyH_ready (rs := [7]) (by kernel_rfl) (by simp) ?_
        refine AllReadyH.cons rfl (fun K hK => ?_) AllReadyH.nil
        go_simp
        go_at_call 226; refine (yNatOf (O := Wd (Wd (Wd O B2) B3) BT) (hOT.ext (by (repeat (first | with_reducible exact Ext.refl _ | with_reducible assumption | refine Ext.trans ?_ (by with_reducible assumption) | refine Ext.alloc ?_ _ _ | refine Ext.drew ?_ | refine Ext.drewN ?_ _)))) (hlk.ext (by (repeat (first | with_reducible exact Ext.refl _ | with_reducible assumption | refine Ext.trans ?_ (by with_reducible assumption) | refine Ext.alloc ?_ _ _ | refine Ext.drew ?_ | refine Ext.drewN ?_ _))))).mono ?_; rintro e w8 ⟨k1, rfl, hk1, he⟩
        refine hK.out _ _ ?_ (fun hHeld => ?_)
        · first | exact HH.out.trans hmY | exact HH.out.trans_ext he | exact HH.out
        clear hK K HH
        have HH : Hid (Mod (fun x => x = BT) W0 _) := hHeld
        clear hHeld
        refine wpAnyH_take (i := 8) rfl (by kernel_rfl) (by kernel_rfl) (by kernel_rfl) (fun _ _ _ h => h) (yields_build (by rfl) rfl (b233 hax hk1.onec) (by simp [Act.eval])) HH.out ?_
        change wpAnyH _ _ _ _ _ _ _ (Act.put _ (some 176) _) _
        simp only [Act.put, List.setIfInBounds_toArray, List.set_cons_zero, List.set_cons_succ]
        refine wpAnyH_take (i := 9) (v := ?_) rfl (by kernel_rfl) (by kernel_rfl) (by kernel_rfl) (fun _ _ _ h => h) (Or.inl ⟨by rfl, ?_⟩) HH.out ?_
        rotate_left
        · intro w hSw; go_simp; try with_reducible rfl
        change wpAnyH _ _ _ _ _ _ _ (Act.put _ (some 177) _) _
        simp only [Act.put, List.setIfInBounds_toArray, List.set_cons_zero, List.set_cons_succ]
        refine wpAnyH_ready (rs := [10]) (by kernel_rfl) (by simp) ?_
        refine AllReadyH.cons rfl (fun K hK => ?_) AllReadyH.nil
        refine step_any rfl (op_storeRow rfl rt233 rfl rfl (mkR_size hax _) (mkR_onec hk1.onec) (bT.ext (by (repeat (first | with_reducible exact Ext.refl _ | with_reducible assumption | refine Ext.trans ?_ (by with_reducible assumption) | refine Ext.alloc ?_ _ _ | refine Ext.drew ?_ | refine Ext.drewN ?_ _)))) (by omega) ?_)
        rintro W12 b12 m12
        refine hK.out _ _ ?_ (fun hHeld => ?_)
        · exact HH.out.trans m12
        clear hK K HH
        have HH : Hid (Mod (fun x => x = BT) W0 _) := hHeld
        clear hHeld
        change wpAnyH _ _ _ _ _ _ _ (Act.put _ none _) _
        simp only [Act.put, List.setIfInBounds_toArray, List.set_cons_zero, List.set_cons_succ]
        refine wpAnyH_done (by kernel_rfl) ?_ _
        go_wp2
        go_roundw
        case rel =>
          have h9 := hi1.out
          have hwr : Ext wr w8 := by (repeat (first | with_reducible exact Ext.refl _ | with_reducible assumption | refine Ext.trans ?_ (by with_reducible assumption) | refine Ext.alloc ?_ _ _ | refine Ext.drew ?_ | refine Ext.drewN ?_ _))
          have hne : ∀ b, ¬ Wd (Wd (Wd O B2) B3) BT b → ¬ b = BT := fun b hb q => hb (Or.inr q)
          refine ⟨i1, rfl, by omega, (b3r.ext hwr).mod m12 hB3T, (m3r.trans_ext hwr).trans' m12 (fun b hb => Or.inr (by rw [hb]; exact gT)), ?_⟩
          show Laid 241 21 Wm.heap.size (fun B cc o x => MkC (Wd (Wd (Wd O B2) B3) B) W12 cc o x) W12 (c3 2) WW.warmS i1
          refine Or.inr ⟨BT, _, hvT, b12, gT, fun k hk h2 => ?_⟩
          by_cases e : k = i
          · subst e
            rw [hx.out]
            have g22 : ∀ j, j < 21 → layv cT (k * 21) (mkR x.1 k1) (k * 21 + j) = cf (mkR x.1 k1) j := fun j hj => layv_in _ _ _ (by rw [mkR_size hax _]; exact hj)
            refine ⟨fun j u hu => ?_, hax, ?_⟩
            · have hj := (Array.getElem?_eq_some_iff.1 hu).1
              rw [av_size hax] at hj
              rw [g22 j (by omega)]
              unfold mkR
              rw [cf_append, if_pos (by rw [av_size hax]; exact hj)]
              exact cf_get hu
            · rw [g22 20 (by decide), show cf (mkR x.1 k1) 20 = k1 by unfold mkR; rw [cf_append, if_neg (by rw [av_size hax]; omega), av_size hax]; rfl]
              exact ⟨lk, hk1.keep m12 hne, hlk2⟩
          · refine ((hdone k (by omega) h2).liftc hwr m12 hne).cellsc (fun j hj => ?_)
            rw [layv_out _ _ _ (by rw [mkR_size hax _]; omega)]
        case measure => have h9 := hi1.out; simp [intOf]; omega
      · have z1 : ¬ (i : Int) < WW.warmS.length := by omega
        obtain rfl : i = WW.warmS.length := by omega
        go_wp2
        go_meet
        case rel =>
          refine ⟨c3, b3r, hc3, m3r, ?_⟩
          rcases hlaid.out with ⟨q1, q2⟩ | ⟨BT, cT, hvT, bT, gT, hdone⟩
          · exact Or.inl ⟨q1, q2⟩
          · exact Or.inr ⟨BT, _, cT, hvT, Nat.le_refl _, by omega, bT, fun q => Nat.lt_irrefl _ (Nat.lt_of_lt_of_le (hOm _ q) gT), fun k hk => (hdone k hk hk).thinc⟩
  case rest =>
  clear hlaid b3' m3 hc3
  obtain ⟨c3, b3', hc3, m3, hres⟩ := hcut
  have d0 : c3 0 = cm 0 := hc3.out 0 (by decide)
  have d1 : c3 1 = cm 1 := hc3.out 1 (by decide)
  have d3 : c3 3 = cm 3 := hc3.out 3 (by decide)
  have d4 : c3 4 = cm 4 := hc3.out 4 (by decide)
  have d5 : c3 5 = cm 5 := hc3.out 5 (by decide)
  have d6 : c3 6 = cm 6 := hc3.out 6 (by decide)
  have d7 : c3 7 = cm 7 := hc3.out 7 (by decide)
  have F0 : AccL (Wd (Wd O B2) B3) wc (c3 0) WW.accts := by rw [d0]; exact AccL.keep G0m m3 hne3
  have F1 : AddrL (Wd (Wd O B2) B3) wc (c3 1) WW.warmA := by rw [d1]; exact AddrL.keep G1m m3 hne3
  have F3 : NV (Wd (Wd O B2) B3) wc (c3 3) WW.refund := by rw [d3]; exact G3m.keep m3 hne3
  have F4 : LogL (fun b => ¬ (Wd (Wd O B2) B3) b) (Wd (Wd O B2) B3) wc (c3 4) WW.logs := by rw [d4]; exact LogL.keep G4m m3 hne3 hne3
  have F5 : TmpL 304 (Wd (Wd O B2) B3) wc (c3 5) WW.temps := by rw [d5]; exact TmpL.keep G5m m3 hne3
  have F6 : AddrL (Wd (Wd O B2) B3) wc (c3 6) WW.made := by rw [d6]; exact AddrL.keep G6m m3 hne3
  have F7 : AddrL (Wd (Wd O B2) B3) wc (c3 7) WW.gone := by rw [d7]; exact AddrL.keep G7m m3 hne3
  have b2z := b2c.mod m3 (fun q => hB32 q.symm)
  have hEz := hLm _ m3
  have hones8 : Ones (rowOf c3 0 8) := ones_of (fun q hq => by
    rw [rowOf_size] at hq
    rw [cf_rowOf _ _ _ hq, Nat.zero_add]
    rcases (show q = 0 ∨ q = 1 ∨ q = 2 ∨ q = 3 ∨ q = 4 ∨ q = 5 ∨ q = 6 ∨ q = 7 by omega) with rfl | rfl | rfl | rfl | rfl | rfl | rfl | rfl
    · exact grow_one F0
    · exact grow_one F1
    · exact grow_one hres
    · exact F3.one
    · exact grow_one F4
    · exact grow_one F5
    · exact grow_one F6
    · exact grow_one F7)
  go_wp2_with (first | ((with_reducible (refine Veil.out ?_; apply wl_loadRow rt99)); (case hx => rfl); (case hB => exact b3'); (case hi => decide)) | ((with_reducible (refine Veil.out ?_; apply wl_storeRow rt99)); (case hx => rfl); (case hy => rfl); (case hr => exact rowOf_size _ _ _); (case h1 => exact hones8); (case hB => exact b2z); (case hi => decide); rintro W34 b34 m34))
  have hne2 : ∀ b, ¬ (Wd (Wd O B2) B3) b → ¬ b = B2 := fun b hb q => hb (Or.inl (Or.inr q))
  have Y3 : YWC (Wd (Wd O B2) B3) wc c3 0 WW := ⟨F0, F1, hres, F3, F5, F6, F7⟩
  have Y4 : YWC O W34 c3 0 WW := (Y3.keep m34 hne2).reo (fun b _ q => Or.inl (Or.inl q))
  have L4 : LogL (fun b => ¬ O b) O W34 (c3 4) WW.logs := GRow.reo (LogL.keep F4 m34 hne2 hne2) (fun b _ q => Or.inl (Or.inl q)) (fun _ _ _ k => k.reo (fun b _ q => Or.inl (Or.inl q)))
  have gr : ∀ j, j < 8 → cf (rowOf c3 0 8) j = c3 j := fun j hj => by rw [cf_rowOf _ _ _ hj, Nat.zero_add]
  have hE34 : Ext w W34 := Ext.trans_mod hEz m34 (fun q hq => by have hq2 : q = B2 := hq; rw [hq2]; exact g2)
  have hri : RowIn W34 B2 0 (rowOf c3 0 8) := fun j u hu => by
    have hj : j < 8 := by have := (Array.getElem?_eq_some_iff.1 hu).1; rwa [rowOf_size] at this
    have hc := b34.cell (i := j) hj
    rw [layv_atc _ _ _ _ (Nat.zero_le _) (by rw [rowOf_size]; omega), Nat.sub_zero, cf_get hu] at hc
    rw [Nat.zero_add]; exact hc
  have hfin : YWC O W34 (cf (rowOf c3 0 8)) 0 WW := Y4.cellsc (fun j hj => by rw [Nat.zero_add]; exact gr j hj)
  have hfin4 : LogL (fun b => ¬ O b) O W34 (cf (rowOf c3 0 8) 4) WW.logs := by rw [gr 4 (by decide)]; exact L4
  have hfull : Full (cf (rowOf c3 0 8) 4) := by rw [gr 4 (by decide), d4]; exact G4fm
  have hrs : (rowOf c3 0 8).size = 8 := rowOf_size _ _ _
  generalize rowOf c3 0 8 = rr at hri hfin hfin4 hfull hrs hones8 ⊢
  exact post_row rt99 rr hrs Hvah.results140 rfl hri rfl ⟨rr, rfl, hrs, hones8, hfin, hfin4, hfull, hE34⟩
end
end Go.Proofs.YgvahwGreat
