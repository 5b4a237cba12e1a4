import Derived.Test.YgvahwGreatVs1
import Derived.Test.YgvahwGreatVe1
import Derived.Test.YgvahwGreatPq
import Derived.Test.YgvahwGreatNx1
import Derived.Test.YgvahwGreatVaTb0
import Derived.Test.YgvahwGreatU256F
namespace Go.Proofs.YgvahwGreat
open Go.RowKit
set_option linter.unusedSimpArgs false
theorem oneX4 : OneT 4 := oneT_of (by kernel_rfl) (by kernel_rfl)
theorem oneX21 : OneT 21 := oneT_of (by kernel_rfl) (by kernel_rfl)
theorem oneX26 : OneT 24 := oneT_of (by kernel_rfl) (by kernel_rfl)
theorem oneX32 : OneT 23 := oneT_of (by kernel_rfl) (by kernel_rfl)
theorem oneX77 : OneT 90 := oneT_of (by kernel_rfl) (by kernel_rfl)
theorem oneX78 : OneT 91 := oneT_of (by kernel_rfl) (by kernel_rfl)
theorem oneX112 : OneT 56 := oneT_of (by kernel_rfl) (by kernel_rfl)
theorem under83x : Hvah.prog.underlying 96 = some (.slice 21) := by kernel_rfl
theorem el21x : ElT 21 1 #[.int .i32 0] := ⟨⟨Hvah.t21, .int .i32 0, by kernel_rfl, by kernel_rfl, rfl, by kernel_rfl, by decide +kernel⟩, rfl, by decide⟩
theorem el114x : ElT 58 55 z114x := ⟨⟨Hvah.t58, .agg z114x, by kernel_rfl, by kernel_rfl, rfl, by kernel_rfl, by decide +kernel⟩, rfl, by decide⟩
theorem el118x : ElT 127 64 z118x := ⟨⟨Hvah.t127, .agg z118x, by kernel_rfl, by kernel_rfl, rfl, by kernel_rfl, by decide +kernel⟩, rfl, by decide⟩
def z171x : Array Value := #[.int .i32 0, .int .u64 0, .int .u64 0, .int .u64 0, .int .u64 0, .int .i32 0]
theorem z171xE : zeroOf Hvah.prog 179 = some z171x := by kernel_rfl
theorem z171xs : z171x.size = 6 := rfl
theorem sl166x : SlT 174 179 6 := ⟨⟨Hvah.t179, .agg z171x, by kernel_rfl, by kernel_rfl, by kernel_rfl, by kernel_rfl, rfl, by decide +kernel⟩, by decide, by decide⟩
theorem info171x : Hvah.prog.info? 179 = some Hvah.t179 := by kernel_rfl
theorem zero171x : Hvah.t179.zero = some (.agg z171x) := by kernel_rfl
theorem size171x : Hvah.t179.size = 6 := by kernel_rfl
/-- A key as a row. -/
def skR (r x k : Nat) : Array Value := #[.int .i32 (r : Nat), .int .u64 (lim x 0 : Nat), .int .u64 (lim x 1 : Nat), .int .u64 (lim x 2 : Nat), .int .u64 (lim x 3 : Nat), .int .i32 (k : Nat)]
theorem skR_size (r x k : Nat) : (skR r x k).size = 6 := rfl
theorem skR_one (r x k : Nat) : ∀ u ∈ (skR r x k).toList, u.oneCell' = true := fun u hu => by
  simp only [skR, List.mem_cons, List.not_mem_nil, or_false] at hu
  rcases hu with rfl | rfl | rfl | rfl | rfl | rfl <;> rfl
theorem skR_row {r x k : Nat} (hx : x < P256) (c : Nat → Value) (o : Nat) (h : ∀ j u, (skR r x k)[j]? = some u → c (o + j) = u) : SKR c o ⟨r, x, k⟩ :=
  ⟨⟨by have := h 0 _ rfl; rwa [Nat.add_zero] at this, ⟨h 1 _ rfl, h 2 _ rfl, h 3 _ rfl, h 4 _ rfl⟩, h 5 _ rfl⟩, hx⟩
theorem skr_move {c c' : Nat → Value} {o : Nat} {y : SK} (hc : ∀ j, j < 6 → c' (o + j) = c (o + j)) (k : SKR c o y) : SKR c' o y := ⟨k.1.keep (fun j hj => hc j hj), k.2⟩
theorem b171a (x k : Nat) : ∀ w, (Instr.build 179 ([(1, wv x), (2, .int .i32 (k : Nat))] : List (Nat × Value)).toArray).run Hvah.prog w = .ok (.agg (skR 0 x k)) w := fun w => by kernel_rfl
theorem b171b (r x k : Nat) : ∀ w, (Instr.build 179 ([(0, .int .i32 (r : Nat)), (1, wv x), (2, .int .i32 (k : Nat))] : List (Nat × Value)).toArray).run Hvah.prog w = .ok (.agg (skR r x k)) w := fun w => by kernel_rfl
theorem post_23 {R : Ending → World → Prop} {ac : Act} {w : World} {v : Value} (hv : ac.tmps.getD 2 undef = v) (hdf : ac.defers = []) (h : R (.returned v) w) : bodyPost Hvah.prog Hvah.f32 R .ret ac w := by
  subst hv; exact bodyPost_ret (results_tmp rfl _ _ _) hdf h
theorem GRow.sliceX {α : Type} {ty : TypeId} {sz : Nat} {R : (Nat → Value) → Nat → α → Prop} {T : Nat → Prop} {w : World} {v : Value} {l : List α} (h : GRow ty sz R T w v l) : ∃ o cap, v = .slice o l.length cap := by
  obtain ⟨o, cap, h1, _⟩ := h.slice
  exact ⟨o, cap, h1⟩
theorem rt171x : RowT 179 6 := rowT_of (by kernel_rfl) (by kernel_rfl)
theorem vCopiedY (O O' : Nat → Prop) (v : Value) (l : List Nat) (w : World) (hO : Small O w) (h : NL O' w v l) :
    Calls Hvah.prog 86 #[v] w fun e w' => ∃ r, e = .returned r ∧ NL O w' r l ∧ Ext w w' := by
  obtain ⟨o, c, rfl, hc, hm, hb⟩ := h
  have hd := hb.lt
  by_cases hne : l = []
  · subst hne
    go_enter Hvah.func86, Hvah.ntmps86
    go_wp2
    go_ret
    exact ⟨_, rfl, NL.nil, Ext.refl _⟩
  · have hl : ((l.length : Int) == 0) = false := by
      have := List.length_pos_iff.2 hne
      simp; omega
    have hle : l.length ≤ 140737488355328 := by omega
    go_enter Hvah.func86, Hvah.ntmps86
    go_wp2_with (first
      | (at_make; refine wl_make_bytes Hvah.underlying23 l.length rfl rfl hle ?_)
      | ((with_reducible (refine Veil.out ?_; apply wl_copy_bytes Hvah.underlying23 (L := List.replicate l.length 0) (t := 5) (l := l))); (case hd => rfl); (case hs => rfl); (case hg => exact heap_new _ _); (case hl => simp); (case hsrc => exact (hb.ext ((Ext.refl _).alloc _ _)).src hne); (case hfit => simp)))
    go_ret
    refine ⟨_, rfl, ?_, ((Ext.refl _).alloc _ _).setRow (Nat.le_refl _) _⟩
    refine NL.row (t := 5) ?_ hd (fun hx => Nat.lt_irrefl _ (hO _ hx)) rfl hle
    rw [setRow_heap _ _ _ _ _ _ (heap_new _ _)]
theorem uBE {x : Nat} (w : World) (hx : x < P256) : Calls Hvah.prog 85 #[wv x] w fun e w' => e = .returned (.agg (bw x)) ∧ Ext w w' := uBE32 x w hx
theorem skc_row {d : Nat → Value} {o : Nat} {y : SK} (k : SKR d o y) : d (o + 5) = .int .i32 (y.k : Nat) := k.1.at_
/-- What Export hands out. -/
def YA.outV (x : YA) : IAcct := ⟨x.addr, x.nonce, x.bal, x.code, x.slots⟩
theorem ISlC.cellsV {c c' : Nat → Value} {o : Nat} {x : Nat × Nat} (hc : ∀ j, j < 64 → c' (o + j) = c (o + j)) (h : ISlC c o x) : ISlC c' o x :=
  ⟨h.key.sameS h.kLt (fun j hj => hc j (by omega)), h.kLt, h.val.sameS h.vLt (fun j hj => by rw [Nat.add_assoc, hc (32 + j) (by omega)]), h.vLt⟩
theorem NLx.keepL {O S : Nat → Prop} {w w' : World} {v : Value} {l : List Nat} (h : NLx O w v l) (m : Mod S w w') (hs : ∀ b, b < w.heap.size → ¬ O b → ¬ S b) : NLx O w' v l := by
  obtain ⟨o, c, h1, h2, h3, h4⟩ := h
  refine ⟨o, c, h1, h2, h3, h4.lt, fun hl => ?_⟩
  obtain ⟨b, off, q1, q2, q3, q4⟩ := h4.spot hl
  exact ⟨b, off, q1, q2, Nat.lt_of_lt_of_le q3 m.size, fun i hi => (m.cell (p := ⟨b, off + i, none⟩) q3 (hs b q3 q2)).trans (q4 i hi)⟩
theorem EL.keepL {α : Type} {sz : Nat} {R : (Nat → Value) → Nat → α → Prop} {O S : Nat → Prop} {w w' : World} {v : Value} {l : List α} (h : EL sz R O w v l) (m : Mod S w w') (hs : ∀ b, b < w.heap.size → ¬ O b → ¬ S b) : EL sz R O w' v l := by
  rcases h with h | ⟨b, off, cap, c, h1, h2, h3, h4, h5, h6, h7⟩
  · exact Or.inl h
  · exact Or.inr ⟨b, off, cap, c, h1, h2, h3, h4, Nat.lt_of_lt_of_le h5 m.size, fun i hi => (m.cell (p := ⟨b, off + i, none⟩) h5 (hs b h5 h4)).trans (h6 i hi), h7⟩
theorem IAcC.keepL {O S : Nat → Prop} {w w' : World} {c : Nat → Value} {o : Nat} {x : IAcct} (h : IAcC O w c o x) (m : Mod S w w') (hs : ∀ b, b < w.heap.size → ¬ O b → ¬ S b) : IAcC O w' c o x :=
  ⟨h.addr, h.aLt, h.nonce, h.nLt, h.bal, h.bLt, h.code.keepL m hs, h.slots.keepL m hs⟩
theorem slE_app (ls : List ESlot) (S S' : List SK) (r : Nat) : slE ls (S ++ S') r = slE ls S r ++ slE ls S' r := by
  unfold slE
  rw [List.filter_append, List.map_append]
theorem slE_all {ls : List ESlot} {S : List SK} {r : Nat} (h : ∀ s ∈ S, s.r = r) : slE ls S r = S.map fun s => ((eS ls s.k).key, (eS ls s.k).val) := by
  unfold slE
  rw [List.filter_eq_self.2 (fun s hs => by simp [h s hs])]
theorem slE_none {ls : List ESlot} {S : List SK} {r : Nat} (h : ∀ s ∈ S, s.r ≠ r) : slE ls S r = [] := by
  unfold slE
  rw [List.filter_eq_nil_iff.2 (fun s hs => by simp [h s hs])]
  rfl
theorem acE_out {la : List EAcct} {ls : List ESlot} {A S S' : List SK} {q : Nat} (h : slE ls S (q + 1) = slE ls S' (q + 1)) : (acE la ls A S q).outV = (acE la ls A S' q).outV := by
  unfold acE YA.outV
  rw [h]
/-- An account of Export gets its slots. -/
theorem IAcC.giveS {O : Nat → Prop} {w : World} {c c' : Nat → Value} {o : Nat} {x y : IAcct} {v : Value} (h : IAcC O w c o x) (hc : ∀ j, j < 54 → c' (o + j) = c (o + j)) (hv : c' (o + 54) = v) (hs : EL 64 ISlC O w v y.slots) (e1 : y.addr = x.addr) (e2 : y.nonce = x.nonce) (e3 : y.bal = x.bal) (e4 : y.code = x.code) : IAcC O w c' o y where
  addr := by rw [e1]; exact h.addr.same h.aLt (fun j hj => hc j (by omega))
  aLt := by rw [e1]; exact h.aLt
  nonce := by rw [e2, hc 20 (by decide)]; exact h.nonce
  nLt := by rw [e2]; exact h.nLt
  bal := by rw [e3]; exact h.bal.sameS h.bLt (fun j hj => by rw [Nat.add_assoc, hc (21 + j) (by omega)])
  bLt := by rw [e3]; exact h.bLt
  code := by rw [e4, hc 53 (by decide)]; exact h.code
  slots := by rw [hv]; exact hs
section
variable {own : Nat → Nat} {O : Nat → Prop} {w : World} {g : Nat} {c : Nat → Value} {la : List EAcct} {ls : List ESlot}
set_option maxRecDepth 100000 in
set_option maxHeartbeats 6400000 in
theorem vExport (hO : Small O w) (h : XR own w g c la ls) (hsA : ∀ s ∈ ls, s.acct < la.length) : Calls Hvah.prog 32 #[.pointer (some ⟨g, 2435, none⟩)] w fun e w' => ∃ v A S, e = .returned v ∧ A.Perm (kA la la.length) ∧ A.Pairwise SKle ∧ S.Perm (kS (rkF A A.length) ls ls.length) ∧ S.Pairwise SKle ∧ EL 55 (IAcC O w') O w' v ((exE la ls A S).map YA.outV) ∧ Ext w w' := by
  have hbg := h.blk
  obtain ⟨so, scap, hsv⟩ := h.slots.sliceX
  obtain ⟨ao, acap, hav⟩ := h.accts.sliceX
  obtain ⟨nS, hnS⟩ : ∃ z, Hid (ls.length = z) := ⟨_, rfl⟩
  obtain ⟨nA, hnA⟩ : ∃ z, Hid (la.length = z) := ⟨_, rfl⟩
  have hnS6 := h.nS
  have hnA6 := h.nA
  rw [hnS.out] at hsv hnS6
  rw [hnA.out] at hav hnA6
  have K35 : ∀ W, Ext w W → W.cell? ⟨g, 2435, none⟩ = some (.slice ao nA acap) := fun W hW => by rw [(hbg.ext hW).cell (by decide), hav]
  have K36 : ∀ W, Ext w W → W.cell? ⟨g, 2436, none⟩ = some (.slice so nS scap) := fun W hW => by rw [(hbg.ext hW).cell (by decide), hsv]
  have hAr := h.accts
  have hSr := h.slots
  rw [hav] at hAr
  rw [hsv] at hSr
  go_enter Hvah.func32, Hvah.ntmps32
  go_upto_block 0 with ((with_reducible (refine Veil.out ?_; apply wl_loadC oneX77)); (case hw => rfl); (case hx => rfl); (case hc => exact K35 _ (by (repeat (first | with_reducible exact Ext.refl _ | with_reducible assumption | refine Ext.trans ?_ (by with_reducible assumption) | refine Ext.alloc ?_ _ _ | refine Ext.drew ?_ | refine Ext.drewN ?_ _)))))
  try simp only [Act.put]
  go_cut [3] (fun v wx => GRow 179 6 SKR (fun b => w.heap.size ≤ b) wx v (kA la nA) ∧ Ext w wx)
  case first =>
    go_upto_region 3 with (fail)
    try simp only [Act.put]
    go_loopw [23, 3] (fun iv v wr => ∃ (i : Nat), iv = .int .i64 (i : Nat) ∧ i ≤ nA ∧ GRow 179 6 SKR (fun b => w.heap.size ≤ b) wr v (kA la i) ∧ Ext w wr) (fun iv _ _ => nA - (intOf iv).toNat)
    case atStart => exact ⟨0, rfl, Nat.zero_le _, Or.inl ⟨rfl, rfl⟩, Ext.refl _⟩
    case round =>
      obtain ⟨i, rfl, hi, hG, hE⟩ := hrel
      obtain ⟨v, ev⟩ : ∃ z, z = u3 := ⟨_, rfl⟩
      subst ev
      rcases Nat.lt_or_ge i nA with hlt | hge
      · have z1 : (i : Int) < nA := by omega
        have hlt' : i < la.length := by rw [hnA.out]; exact hlt
        rcases hAr with ⟨q, _⟩ | ⟨bA, cA, dA, q1, q2, q3, q4, q5, q6⟩
        · rw [q] at hlt'
          exact absurd hlt' (Nat.not_lt_zero _)
        rw [hnA.out] at q1
        injection q1 with q1a q1b q1c
        subst q1a
        subst q1c
        clear q1b
        have hr := q6 i hlt'
        have hq2 : i * 29 + 29 ≤ acap * 29 := by rw [hnA.out] at q2; omega
        obtain ⟨x, hx⟩ : ∃ x, Hid (la[i] = x) := ⟨la[i], rfl⟩
        have hxe : eA la i = x := by rw [eA_get hlt']; exact hx.out
        rw [hx.out] at hr
        have hbA := q4.ext hE
        have HEm := fun W (hW : Ext w W) => vEmpty (own := own) (q4.ext hW) (hr.ext hW) (show i * 29 + 29 ≤ acap * 29 from hq2)
        obtain ⟨bb, hbb⟩ : ∃ z, Hid (decide (x.nonce = 0 ∧ x.bal = 0 ∧ x.code = []) = z) := ⟨_, rfl⟩
        rw [hbb.out] at HEm
        have hbr : (eA la i).bare = bb := by rw [hxe]; exact hbb.out
        obtain ⟨i1, hi1⟩ : ∃ z : Nat, Hid ((i + 1 : Nat) = z) := ⟨_, rfl⟩
        have j1 : IntKind.i64.wrap ((i : Int) + 1) = (i1 : Int) := by rw [IntKind.wrap_i64, ← hi1.out]; omega
        have j2 : IntKind.i32.wrap (i : Int) = (i : Int) := by rw [IntKind.wrap_i32]; omega
        have hxa := hr.aLt
        have hrA := hr.addr
        have hkl := kA_len la i
        replace hbr := (show Hid _ from hbr)
        replace hxe := (show Hid _ from hxe)
        cases bb with
        | true =>
          have hno := kA_no hbr.out
          replace hno := (show Hid _ from hno)
          go_wp2_with (first | ((with_reducible (refine Veil.out ?_; apply wl_loadC oneX77)); (case hw => rfl); (case hx => rfl); (case hc => exact K35 _ hE)) | (go_at_call 82; refine (HEm _ (hE.trans (by (repeat (first | with_reducible exact Ext.refl _ | with_reducible assumption | refine Ext.trans ?_ (by with_reducible assumption) | refine Ext.alloc ?_ _ _ | refine Ext.drew ?_ | refine Ext.drewN ?_ _))))).mono ?_; rintro e w5 ⟨rfl, he5⟩))
          go_roundw
          case rel =>
            have h9 := hi1.out
            refine ⟨i1, rfl, by omega, ?_, hE.trans he5⟩
            rw [← h9, hno.out]
            exact hG.ext he5 (fun _ _ _ k => k)
          case measure => exact meas_ltE hi1.out hlt
        | false =>
          have hye := kA_yes hbr.out
          rw [hxe.out] at hye
          replace hye := (show Hid _ from hye)
          have hx256 : x.addr < P256 := Nat.lt_trans hxa (by decide)
          go_upto_region 6 with (first | ((with_reducible (refine Veil.out ?_; apply wl_loadC oneX77)); (case hw => rfl); (case hx => rfl); (case hc => exact K35 _ hE)) | (go_at_call 82; refine (HEm _ (hE.trans (by (repeat (first | with_reducible exact Ext.refl _ | with_reducible assumption | refine Ext.trans ?_ (by with_reducible assumption) | refine Ext.alloc ?_ _ _ | refine Ext.drew ?_ | refine Ext.drewN ?_ _))))).mono ?_; rintro e w5 ⟨rfl, he5⟩))
          have hE5 := hE.trans he5
          have hG5 : GRow 179 6 SKR (fun b => w.heap.size ≤ b) w5 v (kA la i) := hG.ext he5 (fun _ _ _ k => k)
          go_wp2_with (first | ((with_reducible (refine Veil.out ?_; apply wl_loadC oneX77)); (case hw => rfl); (case hx => rfl); (case hc => exact K35 _ hE5)) | ((with_reducible (refine Veil.out ?_; apply wl_loadA)); (case hx => rfl); (case hB => exact q4.ext hE5); (case hA => exact hrA); (case hs => exact hxa); (case ho => omega)) | (go_at_call 83; refine (vAddrWord hxa _).mono ?_; rintro e w6 ⟨rfl, he6⟩) | ((with_reducible (refine Veil.out ?_; apply wl_buildV (hb := b171a x.addr i))); (case he => first | rfl | simp [Act.eval])) | ((with_reducible (refine Veil.out ?_; apply wl_push sl166x w (⟨0, x.addr, i⟩ : SK) (skR 0 x.addr i))); (case hr => rfl); (case hone => exact skR_one _ _ _); (case hG => exact hG5.ext he6 (fun _ _ _ k => k)); (case hE => exact hE5.trans he6); (case hn => omega); (case hy => rfl); (case hs => rfl); (case hb => rfl); (case hx => exact skR_row hx256); (case hRm => exact fun c c' o y q k => skr_move q k); intro v7 W7 hG7 hE7 hk7))
          go_roundw
          case rel =>
            have h9 := hi1.out
            refine ⟨i1, rfl, by omega, ?_, hE7⟩
            rw [← h9, hye.out]
            exact hG7
          case measure => exact meas_ltE hi1.out hlt
      · have z1 : ¬ (i : Int) < nA := by omega
        obtain rfl : i = nA := by omega
        go_wp2
        go_meet
        case rel => exact ⟨hG, hE⟩
  case rest =>
  obtain ⟨W1, e9⟩ : ∃ X, X = wc := ⟨_, rfl⟩
  subst e9
  obtain ⟨hG1, hE1⟩ := hcut
  obtain ⟨v1, ev1⟩ : ∃ z, z = u3 := ⟨_, rfl⟩
  subst ev1
  obtain ⟨o1, cap1, hv1⟩ := hG1.sliceX
  have hkA0 := kA_len la nA
  rcases Nat.eq_zero_or_pos (kA la nA).length with hz | hz
  · have hk0 : kA la nA = [] := List.length_eq_zero_iff.1 hz
    rw [hz] at hv1
    subst hv1
    go_wp2
    refine post_23 (v := .slice none 0 0) rfl rfl ?_
    have hp : ([] : List SK).Perm (kA la la.length) := by rw [hnA.out, hk0]
    have hrk : ∀ i, ¬ (0 < rkF [] 0 (eS ls i).acct ∧ (eS ls i).val ≠ 0) := fun i q => absurd q.1 (Nat.lt_irrefl 0)
    have hs0 : ∀ n, kS (rkF [] 0) ls n = [] := fun n => by
      induction n with
      | zero => rfl
      | succ n ih => rw [kS_no (hrk n), ih]
    exact ⟨_, [], [], rfl, hp, List.Pairwise.nil, by rw [show ([] : List SK).length = 0 from rfl, hs0], List.Pairwise.nil, Or.inl ⟨rfl, _, rfl⟩, hE1⟩
  obtain ⟨n1, hn1⟩ : ∃ z, Hid ((kA la nA).length = z) := ⟨_, rfl⟩
  rw [hn1.out] at hv1 hz hkA0
  have z8 : ((n1 : Int) == 0) = false := by simp; omega
  have z8' : ¬ ((n1 : Int) = 0) := by omega
  have HSo := vSorted (fun b hb => Nat.le_trans hE1.size hb) hG1 (by rw [hn1.out]; omega)
  subst hv1
  go_upto_region 11 with (go_at_call 84; refine HSo.mono ?_; rintro e W2 ⟨v2, A, rfl, hGA, hAp, hAs, mA⟩)
  have hE2 : Ext w W2 := Ext.trans_mod hE1 mA (fun _ q => q)
  have hAl : A.length = n1 := by rw [hAp.length_eq, hn1.out]
  obtain ⟨o2, cap2, hv2⟩ := hGA.sliceX
  rw [hAl] at hv2
  clear HSo hG1 mA
  go_upto_region 12 with (first | ((with_reducible (refine Veil.out ?_; apply wl_loadC oneX77)); (case hw => rfl); (case hx => rfl); (case hc => exact K35 _ hE2)) | ((with_reducible (refine Veil.out ?_; apply wl_makeR under83x el21x (n := nA))); (case hl => rfl); (case hc => rfl); (case hn => omega); rintro BR W3 e3 bR gR))
  subst hv2
  go_upto_region 13 with ((with_reducible (refine Veil.out ?_; apply wl_makeR under23x el114x (n := n1))); (case hl => rfl); (case hc => rfl); (case hn => omega); rintro BW W4 e4 bW gW)
  have hE4 : Ext w W4 := hE2.trans (e3.trans e4)
  obtain ⟨O2, hO2⟩ : ∃ z : Nat → Prop, Hid (z = fun b => O b ∨ b = BR ∨ b = BW) := ⟨_, rfl⟩
  have hRW : BR ≠ BW := fun q => by have := bR.lt; omega
  have gRw : w.heap.size ≤ BR := Nat.le_trans hE2.size gR
  have gWw : w.heap.size ≤ BW := Nat.le_trans (hE2.trans e3).size gW
  have hO2s : Small O2 W4 := fun b hb => by
    rw [hO2.out] at hb
    rcases hb with q | q | q
    · exact Nat.lt_of_lt_of_le (hO b q) hE4.size
    · rw [q]; exact Nat.lt_of_lt_of_le bR.lt e4.size
    · rw [q]; exact bW.lt
  have hO2R : ∀ b, ¬ O2 b → ¬ b = BR := fun b hb q => hb (by rw [hO2.out]; exact Or.inr (Or.inl q))
  have hO2W : ∀ b, ¬ O2 b → ¬ b = BW := fun b hb q => hb (by rw [hO2.out]; exact Or.inr (Or.inr q))
  have hME : ∀ W, Mod (fun b => b = BR ∨ b = BW) W4 W → Ext w W := fun W hW => Ext.trans_mod hE4 hW (fun q hq => by
    rcases hq with q2 | q2
    · rw [q2]; exact gRw
    · rw [q2]; exact gWw)
  have hAm : ∀ (r : Nat) (hr : r < A.length), A[r].k < la.length ∧ A[r].x = (eA la A[r].k).addr ∧ A[r].r = 0 := fun r hr => by
    obtain ⟨q1, q2, q3, q4⟩ := kA_mem.1 (hAp.mem_iff.1 (List.getElem_mem hr))
    exact ⟨by rw [hnA.out]; exact q1, q4, q3⟩
  have bR4 := bR.ext e4
  have hGA4 : GRow 179 6 SKR (fun b => w.heap.size ≤ b) W2 (.slice o2 n1 cap2) A := hGA
  clear hGA
  go_upto_block 2 with (fail)
  try simp only [Act.put]
  go_cut [] (fun wx => ∃ cR cW, Blk wx BR (nA * 1) 21 cR ∧ Hid (∀ i, i < nA → cR i = .int .i32 (rkF A n1 i : Nat)) ∧ Blk wx BW (n1 * 55) 58 cW ∧ Hid (∀ q, q < n1 → IAcC O2 wx cW (q * 55) (acE la ls A [] q).outV) ∧ Mod (fun b => b = BR ∨ b = BW) W4 wx)
  case first =>
    go_upto_region 14 with (fail)
    try simp only [Act.put]
    go_loopw [66] (fun iv wr => ∃ (r : Nat) (cR cW : Nat → Value), iv = .int .i64 (r : Nat) ∧ r ≤ n1 ∧ Blk wr BR (nA * 1) 21 cR ∧ Hid (∀ i, i < nA → cR i = .int .i32 (rkF A r i : Nat)) ∧ Blk wr BW (n1 * 55) 58 cW ∧ Hid (∀ q, q < r → IAcC O2 wr cW (q * 55) (acE la ls A [] q).outV) ∧ Mod (fun b => b = BR ∨ b = BW) W4 wr) (fun iv _ => n1 - (intOf iv).toNat)
    case atStart => exact ⟨0, _, _, rfl, Nat.zero_le _, bR4, (fun i _ => by show cf #[.int .i32 0] (i % 1) = .int .i32 ((0 : Nat) : Int); rw [Nat.mod_one]; rfl : ∀ i, i < nA → _), bW, (fun q hq => absurd hq (Nat.not_lt_zero _) : ∀ q, q < 0 → _), Mod.refl _ _⟩
    case round =>
      obtain ⟨r, cR, cW, rfl, hr, bRr, hcR, bWr, hcW, hM⟩ := hrel
      rcases Nat.lt_or_ge r n1 with hlt | hge
      · have z1 : (r : Int) < n1 := by omega
        have hrA : r < A.length := by rw [hAl]; exact hlt
        rcases hGA4 with ⟨q, _⟩ | ⟨bK, cK, dK, p1, p2, p3, p4, p5, p6⟩
        · rw [q] at hrA; exact absurd hrA (Nat.not_lt_zero _)
        rw [hAl] at p1
        injection p1 with p1a p1b p1c
        subst p1a
        subst p1c
        clear p1b
        rw [hAl] at p2
        have hKl := p4.lt
        have hKr : Blk wr bK (cap2 * 6) 179 dK := (p4.ext (e3.trans e4)).mod hM (fun q => by
          rcases q with q | q
          · omega
          · have := e3.size; omega)
        have hkk := p6 r hrA
        obtain ⟨hak, hax, har⟩ := hAm r hrA
        have hgd := gd_get hrA
        obtain ⟨y, hy⟩ : ∃ z, Hid (A[r] = z) := ⟨A[r], rfl⟩
        rw [hy.out] at hkk hak hax har hgd
        rcases hAr with ⟨q, _⟩ | ⟨bA, cA, dA, q1, q2, q3, q4, q5, q6⟩
        · rw [q] at hak; exact absurd hak (Nat.not_lt_zero _)
        rw [hnA.out] at q1
        injection q1 with q1a q1b q1c
        subst q1a
        subst q1c
        clear q1b
        have hra0 := q6 y.k hak
        have hxe := eA_get hak
        obtain ⟨x, hx⟩ : ∃ z, Hid (la[y.k] = z) := ⟨la[y.k], rfl⟩
        rw [hx.out] at hra0 hxe
        have hyn : y.k < nA := by rw [← hnA.out]; exact hak
        have hq2 : y.k * 29 + 29 ≤ acap * 29 := by rw [hnA.out] at q2; omega
        have zk : (y.k : Int) < nA := by omega
        obtain ⟨r1, hr1⟩ : ∃ z : Nat, Hid ((r + 1 : Nat) = z) := ⟨_, rfl⟩
        have j1 : IntKind.i64.wrap ((r : Int) + 1) = (r1 : Int) := by rw [IntKind.wrap_i64, ← hr1.out]; omega
        have j2 : IntKind.i32.wrap (r : Int) = (r : Int) := by rw [IntKind.wrap_i32]; omega
        have j3 : IntKind.i32.wrap ((r : Int) + 1) = (r1 : Int) := by rw [IntKind.wrap_i32, ← hr1.out]; omega
        have hEr : Ext w wr := hME _ hM
        have hbAl := q4.lt
        have hAR : ¬ bA = BR := fun q => by omega
        have hAW : ¬ bA = BW := fun q => by omega
        have hxa := hra0.aLt
        have hxb := hra0.bLt
        have hxn := hra0.nLt
        have hra := hra0.addr
        have hrn := hra0.nonce
        have hrb := hra0.bal
        have hrc0w := hra0.code
        replace hgd := (show Hid _ from hgd)
        replace hxe := (show Hid _ from hxe)
        replace hax := (show Hid _ from hax)
        clear q6 p6 hra0
        go_upto_region 16 with (first | ((with_reducible (refine Veil.out ?_; apply wl_loadRow rt171x)); (case hx => rfl); (case hB => exact hKr); (case hi => omega)) | ((with_reducible (refine Veil.out ?_; apply wl_allocB z171xE)); (case hn => exact z171xs); rintro B8 WX eX bX gX) | ((with_reducible (refine Veil.out ?_; apply wl_storeRow rt171x)); (case hx => rfl); (case hy => rfl); (case hr => exact rowOf_size _ _ _); (case h1 => exact hkk.1.ones); (case hB => exact bX); (case hi => decide); rintro WY b8 mY))
        have eY : Ext wr WY := Ext.trans_mod eX mY (fun q hq => by have hq2 : q = B8 := hq; rw [hq2]; exact gX)
        have hEY : Ext w WY := hEr.trans eY
        obtain ⟨d8, hd8⟩ : ∃ z, Hid (layv (cf z171x) 0 (rowOf dK (r * 6) 6) = z) := ⟨_, rfl⟩
        have h85 : d8 5 = .int .i32 (y.k : Nat) := by
          rw [← hd8.out]
          have := layv_in (cf z171x) 0 (rowOf dK (r * 6) 6) (j := 5) (by rw [rowOf_size]; decide)
          rw [Nat.zero_add] at this
          rw [this, cf_rowOf _ _ _ (by decide)]
          exact skc_row hkk
        rw [hd8.out] at b8
        have h8R : ¬ B8 = BR := fun q => by have := bRr.lt; omega
        have h8W : ¬ B8 = BW := fun q => by have := bWr.lt; omega
        clear hd8 bX eX mY hKr hkk
        refine w_ext ?_
        rintro W0 hW0
        refine wp_region_held_drew (S := fun w' => Ext W0 w') (by kernel_rfl) (Ext.refl _).drew (fun hHeld => ?_)
        have HH : Hid (Ext W0 _) := hHeld
        clear hHeld
        refine wpAnyH_take (i := 0) (v := ?_) rfl (by kernel_rfl) (by kernel_rfl) (by kernel_rfl) (fun _ _ _ h => h) (Or.inl ⟨by rfl, ?_⟩) HH.out ?_
        rotate_left
        · intro w hSw; go_simp; try with_reducible rfl
        change wpAnyH _ _ _ _ _ _ _ (Act.put _ (some 71) _) _
        simp only [Act.put, List.setIfInBounds_toArray, List.set_cons_zero, List.set_cons_succ]
        refine wpAnyH_take (i := 1) (v := ?_) rfl (by kernel_rfl) (by kernel_rfl) (by kernel_rfl) (fun _ _ _ h => h) (Or.inl ⟨by rfl, ?_⟩) HH.out ?_
        rotate_left
        · intro w hSw; go_simp; try with_reducible rfl
        change wpAnyH _ _ _ _ _ _ _ (Act.put _ (some 72) _) _
        simp only [Act.put, List.setIfInBounds_toArray, List.set_cons_zero, List.set_cons_succ]
        refine wpAnyH_take (i := 2) (v := ?_) rfl (by kernel_rfl) (by kernel_rfl) (by kernel_rfl) (fun _ _ _ h => h) (Or.inl ⟨by rfl, ?_⟩) HH.out ?_
        rotate_left
        · intro w hSw; go_simp; try with_reducible rfl
        change wpAnyH _ _ _ _ _ _ _ (Act.put _ (some 73) _) _
        simp only [Act.put, List.setIfInBounds_toArray, List.set_cons_zero, List.set_cons_succ]
        refine wpAnyH_take (i := 3) rfl (by kernel_rfl) (by kernel_rfl) (by kernel_rfl) (fun _ _ _ h => h) (yieldsIf_load1 (by rfl) _ _ rfl _ _ rfl oneX77 _ (fun w hSw => K35 _ (hEY.trans (hW0.trans hSw)))) HH.out ?_
        change wpAnyH _ _ _ _ _ _ _ (Act.put _ (some 74) _) _
        simp only [Act.put, List.setIfInBounds_toArray, List.set_cons_zero, List.set_cons_succ]
        refine wpAnyH_take (i := 4) (v := ?_) rfl (by kernel_rfl) (by kernel_rfl) (by kernel_rfl) (fun _ _ _ h => h) (Or.inl ⟨by rfl, ?_⟩) HH.out ?_
        rotate_left
        · intro w hSw; go_simp; try with_reducible rfl
        change wpAnyH _ _ _ _ _ _ _ (Act.put _ (some 75) _) _
        simp only [Act.put, List.setIfInBounds_toArray, List.set_cons_zero, List.set_cons_succ]
        refine wpAnyH_take (i := 5) rfl (by kernel_rfl) (by kernel_rfl) (by kernel_rfl) (fun _ _ _ h => h) (yieldsIf_load1 (by rfl) _ _ rfl _ _ rfl oneX21 _ (fun w hSw => by rw [(b8.ext (hW0.trans hSw)).cell (by decide), h85])) HH.out ?_
        change wpAnyH _ _ _ _ _ _ _ (Act.put _ (some 76) _) _
        simp only [Act.put, List.setIfInBounds_toArray, List.set_cons_zero, List.set_cons_succ]
        refine wpAnyH_take (i := 6) (v := ?_) rfl (by kernel_rfl) (by kernel_rfl) (by kernel_rfl) (fun _ _ _ h => h) (Or.inl ⟨by rfl, ?_⟩) HH.out ?_
        rotate_left
        · intro w hSw; go_simp; try with_reducible rfl
        change wpAnyH _ _ _ _ _ _ _ (Act.put _ (some 77) _) _
        simp only [Act.put, List.setIfInBounds_toArray, List.set_cons_zero, List.set_cons_succ]
        refine wpAnyH_take (i := 7) (v := ?_) rfl (by kernel_rfl) (by kernel_rfl) (by kernel_rfl) (fun _ _ _ h => h) (Or.inl ⟨by rfl, ?_⟩) HH.out ?_
        rotate_left
        · intro w hSw; go_simp; try with_reducible rfl
        change wpAnyH _ _ _ _ _ _ _ (Act.put _ (some 9) _) _
        simp only [Act.put, List.setIfInBounds_toArray, List.set_cons_zero, List.set_cons_succ]
        refine wpAnyH_done (by kernel_rfl) ?_ _
        have hE16 : Ext WY _ := hW0.trans HH.out
        clear HH
        refine w_ext ?_
        rintro W16 hW16
        have hE17 : Ext WY W16 := hE16.trans hW16
        clear hE16 hW16 hW0
        go_upto_region 18 with (first | ((with_reducible (refine Veil.out ?_; apply wl_loadC oneX21)); (case hw => rfl); (case hx => rfl); (case hc => rw [(b8.ext hE17).cell (by decide), h85])) | ((with_reducible (refine Veil.out ?_; apply wl_storeC oneX21)); (case hx => rfl); (case hy => rfl); (case h1 => rfl); (case hB => exact (bRr.ext (eY.trans hE17))); (case hi => omega); rintro W17 b17 m17))
        replace b17 : Blk W17 BR (nA * 1) 21 (updv cR y.k (.int .i32 (r1 : Nat))) := b17
        have hE17w : Ext w W17 := Ext.trans_mod (hEY.trans hE17) m17 (fun q hq => by have hq2 : q = BR := hq; rw [hq2]; exact gRw)
        have bW17 : Blk W17 BW (n1 * 55) 58 cW := (bWr.ext (eY.trans hE17)).mod m17 (fun q => hRW q.symm)
        have bAw : Blk W17 bA (acap * 29) 176 dA := q4.ext hE17w
        have hrc0 : NL (Mu own) W17 (dA (y.k * 29 + 25)) x.code := hrc0w.ext hE17w
        have M17 : Mod (fun b => b = BR ∨ b = BW) W4 W17 := (hM.trans_ext (eY.trans hE17)).trans (m17.sub (fun _ q => Or.inl q))
        have hO2w : Small O2 W17 := fun b hb => Nat.lt_of_lt_of_le (hO2s b hb) M17.size
        have hWce : r * 55 + 55 ≤ n1 * 55 := by omega
        refine w_ext ?_
        rintro W0 hW0
        refine wp_region_held_drew (S := fun w' => Mod (fun x => x = BW) W0 w') (by kernel_rfl) (Mod.refl _ _).drew (fun hHeld => ?_)
        have HH : Hid (Mod (fun x => x = BW) W0 _) := hHeld
        clear hHeld
        refine wpAnyH_take (i := 0) (v := ?_) rfl (by kernel_rfl) (by kernel_rfl) (by kernel_rfl) (fun _ _ _ h => h) (Or.inl ⟨by rfl, ?_⟩) HH.out ?_
        rotate_left
        · intro w hSw; go_simp; try with_reducible rfl
        change wpAnyH _ _ _ _ _ _ _ (Act.put _ (some 85) _) _
        simp only [Act.put, List.setIfInBounds_toArray, List.set_cons_zero, List.set_cons_succ]
        refine wpAnyH_take (i := 1) (v := ?_) rfl (by kernel_rfl) (by kernel_rfl) (by kernel_rfl) (fun _ _ _ h => h) (Or.inl ⟨by rfl, ?_⟩) HH.out ?_
        rotate_left
        · intro w hSw; go_simp; try with_reducible rfl
        change wpAnyH _ _ _ _ _ _ _ (Act.put _ (some 86) _) _
        simp only [Act.put, List.setIfInBounds_toArray, List.set_cons_zero, List.set_cons_succ]
        refine wpAnyH_take (i := 2) (v := ?_) rfl (by kernel_rfl) (by kernel_rfl) (by kernel_rfl) (fun _ _ _ h => h) (Or.inl ⟨by rfl, ?_⟩) HH.out ?_
        rotate_left
        · intro w hSw; go_simp; try with_reducible rfl
        change wpAnyH _ _ _ _ _ _ _ (Act.put _ (some 87) _) _
        simp only [Act.put, List.setIfInBounds_toArray, List.set_cons_zero, List.set_cons_succ]
        refine wpAnyH_take (i := 3) (v := ?_) rfl (by kernel_rfl) (by kernel_rfl) (by kernel_rfl) (fun _ _ _ h => h) (Or.inl ⟨by rfl, ?_⟩) HH.out ?_
        rotate_left
        · intro w hSw; go_simp; try with_reducible rfl
        change wpAnyH _ _ _ _ _ _ _ (Act.put _ (some 88) _) _
        simp only [Act.put, List.setIfInBounds_toArray, List.set_cons_zero, List.set_cons_succ]
        refine wpAnyH_take (i := 4) (v := ?_) rfl (by kernel_rfl) (by kernel_rfl) (by kernel_rfl) (fun _ _ _ h => h) (Or.inl ⟨by rfl, ?_⟩) HH.out ?_
        rotate_left
        · intro w hSw; go_simp; try with_reducible rfl
        change wpAnyH _ _ _ _ _ _ _ (Act.put _ (some 89) _) _
        simp only [Act.put, List.setIfInBounds_toArray, List.set_cons_zero, List.set_cons_succ]
        refine wpAnyH_take (i := 5) rfl (by kernel_rfl) (by kernel_rfl) (by kernel_rfl) (fun _ _ _ h => h) (yields_A (by rfl) rfl rfl (fun w hSw => (bAw.ext hW0).mod hSw hAW) hra hxa (by omega)) HH.out ?_
        change wpAnyH _ _ _ _ _ _ _ (Act.put _ (some 90) _) _
        simp only [Act.put, List.setIfInBounds_toArray, List.set_cons_zero, List.set_cons_succ]
        refine wpAnyH_take (i := 6) (v := ?_) rfl (by kernel_rfl) (by kernel_rfl) (by kernel_rfl) (fun _ _ _ h => h) (Or.inl ⟨by rfl, ?_⟩) HH.out ?_
        rotate_left
        · intro w hSw; go_simp; try with_reducible rfl
        change wpAnyH _ _ _ _ _ _ _ (Act.put _ (some 91) _) _
        simp only [Act.put, List.setIfInBounds_toArray, List.set_cons_zero, List.set_cons_succ]
        refine wpAnyH_take (i := 7) (v := ?_) rfl (by kernel_rfl) (by kernel_rfl) (by kernel_rfl) (fun _ _ _ h => h) (Or.inl ⟨by rfl, ?_⟩) HH.out ?_
        rotate_left
        · intro w hSw; go_simp; try with_reducible rfl
        change wpAnyH _ _ _ _ _ _ _ (Act.put _ (some 92) _) _
        simp only [Act.put, List.setIfInBounds_toArray, List.set_cons_zero, List.set_cons_succ]
        refine wpAnyH_take (i := 8) (v := ?_) rfl (by kernel_rfl) (by kernel_rfl) (by kernel_rfl) (fun _ _ _ h => h) (Or.inl ⟨by rfl, ?_⟩) HH.out ?_
        rotate_left
        · intro w hSw; go_simp; try with_reducible rfl
        change wpAnyH _ _ _ _ _ _ _ (Act.put _ (some 93) _) _
        simp only [Act.put, List.setIfInBounds_toArray, List.set_cons_zero, List.set_cons_succ]
        refine wpAnyH_take (i := 9) rfl (by kernel_rfl) (by kernel_rfl) (by kernel_rfl) (fun _ _ _ h => h) (yieldsIf_load1 (by rfl) _ _ rfl _ _ rfl oneX26 _ (fun w hSw => by rw [((bAw.ext hW0).mod hSw hAW).cell (by omega), hrn])) HH.out ?_
        change wpAnyH _ _ _ _ _ _ _ (Act.put _ (some 94) _) _
        simp only [Act.put, List.setIfInBounds_toArray, List.set_cons_zero, List.set_cons_succ]
        refine wpAnyH_take (i := 10) (v := ?_) rfl (by kernel_rfl) (by kernel_rfl) (by kernel_rfl) (fun _ _ _ h => h) (Or.inl ⟨by rfl, ?_⟩) HH.out ?_
        rotate_left
        · intro w hSw; go_simp; try with_reducible rfl
        change wpAnyH _ _ _ _ _ _ _ (Act.put _ (some 95) _) _
        simp only [Act.put, List.setIfInBounds_toArray, List.set_cons_zero, List.set_cons_succ]
        refine wpAnyH_take (i := 11) (v := ?_) rfl (by kernel_rfl) (by kernel_rfl) (by kernel_rfl) (fun _ _ _ h => h) (Or.inl ⟨by rfl, ?_⟩) HH.out ?_
        rotate_left
        · intro w hSw; go_simp; try with_reducible rfl
        change wpAnyH _ _ _ _ _ _ _ (Act.put _ (some 96) _) _
        simp only [Act.put, List.setIfInBounds_toArray, List.set_cons_zero, List.set_cons_succ]
        refine wpAnyH_take (i := 12) (v := ?_) rfl (by kernel_rfl) (by kernel_rfl) (by kernel_rfl) (fun _ _ _ h => h) (Or.inl ⟨by rfl, ?_⟩) HH.out ?_
        rotate_left
        · intro w hSw; go_simp; try with_reducible rfl
        change wpAnyH _ _ _ _ _ _ _ (Act.put _ (some 97) _) _
        simp only [Act.put, List.setIfInBounds_toArray, List.set_cons_zero, List.set_cons_succ]
        refine wpAnyH_take (i := 13) rfl (by kernel_rfl) (by kernel_rfl) (by kernel_rfl) (fun _ _ _ h => h) (yields_W (by rfl) rfl rfl (fun w hSw => (bAw.ext hW0).mod hSw hAW) hrb (by omega)) HH.out ?_
        change wpAnyH _ _ _ _ _ _ _ (Act.put _ (some 98) _) _
        simp only [Act.put, List.setIfInBounds_toArray, List.set_cons_zero, List.set_cons_succ]
        refine wpAnyH_take (i := 15) (v := ?_) rfl (by kernel_rfl) (by kernel_rfl) (by kernel_rfl) (fun _ _ _ h => h) (Or.inl ⟨by rfl, ?_⟩) HH.out ?_
        rotate_left
        · intro w hSw; go_simp; try with_reducible rfl
        change wpAnyH _ _ _ _ _ _ _ (Act.put _ (some 100) _) _
        simp only [Act.put, List.setIfInBounds_toArray, List.set_cons_zero, List.set_cons_succ]
        refine wpAnyH_take (i := 16) (v := ?_) rfl (by kernel_rfl) (by kernel_rfl) (by kernel_rfl) (fun _ _ _ h => h) (Or.inl ⟨by rfl, ?_⟩) HH.out ?_
        rotate_left
        · intro w hSw; go_simp; try with_reducible rfl
        change wpAnyH _ _ _ _ _ _ _ (Act.put _ (some 101) _) _
        simp only [Act.put, List.setIfInBounds_toArray, List.set_cons_zero, List.set_cons_succ]
        refine wpAnyH_take (i := 17) (v := ?_) rfl (by kernel_rfl) (by kernel_rfl) (by kernel_rfl) (fun _ _ _ h => h) (Or.inl ⟨by rfl, ?_⟩) HH.out ?_
        rotate_left
        · intro w hSw; go_simp; try with_reducible rfl
        change wpAnyH _ _ _ _ _ _ _ (Act.put _ (some 102) _) _
        simp only [Act.put, List.setIfInBounds_toArray, List.set_cons_zero, List.set_cons_succ]
        refine wpAnyH_take (i := 18) rfl (by kernel_rfl) (by kernel_rfl) (by kernel_rfl) (fun _ _ _ h => h) (yieldsIf_load1 (by rfl) _ _ rfl _ _ rfl oneX32 _ (fun w hSw => by rw [((bAw.ext hW0).mod hSw hAW).cell (by omega)])) HH.out ?_
        change wpAnyH _ _ _ _ _ _ _ (Act.put _ (some 103) _) _
        simp only [Act.put, List.setIfInBounds_toArray, List.set_cons_zero, List.set_cons_succ]
        refine wpAnyH_ready (rs := [14]) (by kernel_rfl) (by simp) ?_
        refine AllReadyH.cons rfl (fun K hK => ?_) AllReadyH.nil
        go_simp
        go_at_call 85; refine (uBE _ hxb).mono ?_; rintro e wa ⟨rfl, he⟩
        refine hK.out _ _ ?_ (fun hHeld => ?_)
        · first | exact HH.out.trans hmY | exact HH.out.trans_ext he | exact HH.out
        clear hK K HH
        have HH : Hid (Mod (fun x => x = BW) W0 _) := hHeld
        clear hHeld
        refine wpAnyH_ready (rs := [19]) (by kernel_rfl) (by simp) ?_
        refine AllReadyH.cons rfl (fun K hK => ?_) AllReadyH.nil
        go_simp
        go_at_call 86; refine (vCopiedY O2 (Mu own) _ x.code _ (hO2w.ext (by (repeat (first | with_reducible exact Ext.refl _ | with_reducible assumption | refine Ext.trans ?_ (by with_reducible assumption) | refine Ext.alloc ?_ _ _ | refine Ext.drew ?_ | refine Ext.drewN ?_ _)))) (hrc0.ext (by (repeat (first | with_reducible exact Ext.refl _ | with_reducible assumption | refine Ext.trans ?_ (by with_reducible assumption) | refine Ext.alloc ?_ _ _ | refine Ext.drew ?_ | refine Ext.drewN ?_ _))))).mono ?_; rintro e wb ⟨rc, rfl, hrc, he⟩
        refine hK.out _ _ ?_ (fun hHeld => ?_)
        · first | exact HH.out.trans hmY | exact HH.out.trans_ext he | exact HH.out
        clear hK K HH
        have HH : Hid (Mod (fun x => x = BW) W0 _) := hHeld
        clear hHeld
        refine wpAnyH_take (i := 20) rfl (by kernel_rfl) (by kernel_rfl) (by kernel_rfl) (fun _ _ _ h => h) (yields_build (ps := [(0, .agg (av x.addr)), (1, .int .u64 (x.nonce : Nat)), (2, .agg (bw x.bal)), (3, rc)]) (by rfl) rfl (b114x hxa hxb hrc.one) (by simp [Act.eval])) HH.out ?_
        change wpAnyH _ _ _ _ _ _ _ (Act.put _ (some 105) _) _
        simp only [Act.put, List.setIfInBounds_toArray, List.set_cons_zero, List.set_cons_succ]
        refine wpAnyH_take (i := 21) (v := ?_) rfl (by kernel_rfl) (by kernel_rfl) (by kernel_rfl) (fun _ _ _ h => h) (Or.inl ⟨by rfl, ?_⟩) HH.out ?_
        rotate_left
        · intro w hSw; go_simp; try with_reducible rfl
        change wpAnyH _ _ _ _ _ _ _ (Act.put _ (some 106) _) _
        simp only [Act.put, List.setIfInBounds_toArray, List.set_cons_zero, List.set_cons_succ]
        refine wpAnyH_ready (rs := [22]) (by kernel_rfl) (by simp) ?_
        refine AllReadyH.cons rfl (fun K hK => ?_) AllReadyH.nil
        refine step_any rfl (op_storeRow rfl rt114x rfl rfl (iaR_size hxa hxb _ _ _) (iaR_one hrc.one rfl) (bW17.ext (by (repeat (first | with_reducible exact Ext.refl _ | with_reducible assumption | refine Ext.trans ?_ (by with_reducible assumption) | refine Ext.alloc ?_ _ _ | refine Ext.drew ?_ | refine Ext.drewN ?_ _)))) (by omega) ?_)
        rintro W18 b18 m18
        refine hK.out _ _ ?_ (fun hHeld => ?_)
        · exact HH.out.trans m18
        clear hK K HH
        have HH : Hid (Mod (fun x => x = BW) W0 _) := hHeld
        clear hHeld
        change wpAnyH _ _ _ _ _ _ _ (Act.put _ none _) _
        simp only [Act.put, List.setIfInBounds_toArray, List.set_cons_zero, List.set_cons_succ]
        refine wpAnyH_done (by kernel_rfl) ?_ _
        have M18 : Mod (fun b => b = BR ∨ b = BW) W4 W18 := M17.trans ((hW0.mod _).trans (HH.out.sub (fun _ q => Or.inr q)))
        have MW : Mod (fun x => x = BW) W17 W18 := (hW0.mod _).trans HH.out
        have hrc18 : NL O2 W18 rc x.code := hrc.keep m18 hO2W
        have hE1718 : Mod (fun b => b = BR ∨ b = BW) wr W18 := ((eY.trans hE17).mod _).trans ((m17.sub (fun _ q => Or.inl q)).trans (MW.sub (fun _ q => Or.inr q)))
        clear HH hW0
        go_wp2
        go_roundw
        case rel =>
          have h9 := hr1.out
          have hxe2 := hxe.out
          refine ⟨r1, _, _, rfl, by omega, b17.mod MW hRW, ?_, b18, ?_, M18⟩
          · show ∀ i, i < nA → _
            intro i hi
            rw [← h9]
            unfold rkF up updv
            rw [hgd.out]
            by_cases e : i = y.k
            · rw [if_pos e, if_pos e, h9]
            · rw [if_neg e, if_neg e]; exact hcR.out i hi
          · show ∀ q, q < r1 → _
            intro q hq
            by_cases e : q = r
            · subst e
              refine iaR_row (x := (acE la ls A [] q).outV) (u := rc) (v := .slice none 0 0) ?_ ?_ ?_ ?_ (Or.inl ⟨?_, _, rfl⟩) _ _ (fun j z hz => ?_)
              · show (eA la (A.getD q ⟨0, 0, 0⟩).k).addr < _
                rw [hgd.out, hxe2]; exact hxa
              · show (eA la (A.getD q ⟨0, 0, 0⟩).k).nonce < _
                rw [hgd.out, hxe2]; exact hxn
              · show (eA la (A.getD q ⟨0, 0, 0⟩).k).bal < _
                rw [hgd.out, hxe2]; exact hxb
              · show NLx O2 W18 rc (eA la (A.getD q ⟨0, 0, 0⟩).k).code
                rw [hgd.out, hxe2]; exact hrc18.x
              · rfl
              · have hz2 : (iaR x.addr x.nonce x.bal rc (.slice none 0 0))[j]? = some z := by
                  have e9 : iaR (acE la ls A [] q).outV.addr (acE la ls A [] q).outV.nonce (acE la ls A [] q).outV.bal rc (.slice none 0 0) = iaR x.addr x.nonce x.bal rc (.slice none 0 0) := by
                    show iaR (eA la (A.getD q ⟨0, 0, 0⟩).k).addr (eA la (A.getD q ⟨0, 0, 0⟩).k).nonce (eA la (A.getD q ⟨0, 0, 0⟩).k).bal rc (.slice none 0 0) = _
                    rw [hgd.out, hxe2]
                  rw [← e9]; exact hz
                have hj := (Array.getElem?_eq_some_iff.1 hz2).1
                rw [layv_in _ _ _ hj]
                exact cf_get hz2
            · have k := hcW.out q (by omega)
              exact (k.keepS hE1718 (fun b hb q2 => q2.elim (hO2R b hb) (hO2W b hb))).cellsS (fun j hj => layv_out _ _ _ (by rw [iaR_size hxa hxb]; omega))
        case measure => exact meas_ltE hr1.out hlt
      · have z1 : ¬ (r : Int) < n1 := by omega
        obtain rfl : r = n1 := by omega
        go_wp2
        go_meet
        case rel => exact ⟨cR, cW, bRr, hcR, bWr, hcW, hM⟩
  case rest =>
  obtain ⟨W5, e9⟩ : ∃ X, X = wc := ⟨_, rfl⟩
  subst e9
  obtain ⟨cR, cW, bR5, hcR, bW5, hcW, hM5⟩ := hcut
  have hE5 : Ext w W5 := hME _ hM5
  go_upto_block 4 with ((with_reducible (refine Veil.out ?_; apply wl_loadC oneX78)); (case hw => rfl); (case hx => rfl); (case hc => exact K36 _ hE5))
  try simp only [Act.put]
  go_cut [10] (fun v wx => GRow 179 6 SKR (fun b => W5.heap.size ≤ b) wx v (kS (rkF A n1) ls nS) ∧ Ext W5 wx)
  case first =>
    go_upto_region 22 with (fail)
    try simp only [Act.put]
    go_loopw [113, 10] (fun iv v wr => ∃ (i : Nat), iv = .int .i64 (i : Nat) ∧ i ≤ nS ∧ GRow 179 6 SKR (fun b => W5.heap.size ≤ b) wr v (kS (rkF A n1) ls i) ∧ Ext W5 wr) (fun iv _ _ => nS - (intOf iv).toNat)
    case atStart => exact ⟨0, rfl, Nat.zero_le _, Or.inl ⟨rfl, rfl⟩, Ext.refl _⟩
    case round =>
      obtain ⟨i, rfl, hi, hG, hE⟩ := hrel
      obtain ⟨v, ev⟩ : ∃ z, z = u10 := ⟨_, rfl⟩
      subst ev
      rcases Nat.lt_or_ge i nS with hlt | hge
      · have z1 : (i : Int) < nS := by omega
        have hlt' : i < ls.length := by rw [hnS.out]; exact hlt
        rcases hSr with ⟨q, _⟩ | ⟨bS, cS, dS, q1, q2, q3, q4, q5, q6⟩
        · rw [q] at hlt'
          exact absurd hlt' (Nat.not_lt_zero _)
        rw [hnS.out] at q1
        injection q1 with q1a q1b q1c
        subst q1a
        subst q1c
        clear q1b
        have hr := q6 i hlt'
        have hq2 : i * 14 + 14 ≤ scap * 14 := by rw [hnS.out] at q2; omega
        have hac := hsA ls[i] (List.getElem_mem _)
        have hxe := eS_get hlt'
        obtain ⟨x, hx⟩ : ∃ x, Hid (ls[i] = x) := ⟨ls[i], rfl⟩
        rw [hx.out] at hr hac hxe
        have hxn : x.acct < nA := by rw [← hnA.out]; exact hac
        have hcr := hcR.out x.acct hxn
        have hrl : rkF A n1 x.acct ≤ n1 := rk_le (by omega)
        have hno := fun q => kS_no (rk := rkF A n1) (ls := ls) (i := i) q
        have hye := fun q => kS_yes (rk := rkF A n1) (ls := ls) (i := i) q
        rw [hxe] at hno hye
        obtain ⟨rk, hrk⟩ : ∃ z, Hid (rkF A n1 x.acct = z) := ⟨_, rfl⟩
        rw [hrk.out] at hcr hrl hno hye
        have za : (x.acct : Int) < nA := by omega
        have z0 : (0 : Int) ≤ x.acct := by omega
        have jw : IntKind.i64.wrap (x.acct : Int) = (x.acct : Int) := by rw [IntKind.wrap_i64]; omega
        have hEw : Ext w wr := hE5.trans hE
        have hSl := q4.lt
        have KS0 : ∀ W, Ext wr W → W.cell? ⟨bS, i * 14, none⟩ = some (.int .i32 (x.acct : Nat)) := fun W hW => by rw [(q4.ext (hEw.trans hW)).cell (by omega), hr.acct]
        have KR : ∀ W, Ext wr W → W.cell? ⟨BR, x.acct, none⟩ = some (.int .i32 (rk : Nat)) := fun W hW => by rw [(bR5.ext (hE.trans hW)).cell (by omega), hcr]
        have HZ := fun W => uIsZero x.val W hr.vLt
        obtain ⟨zb, hzb⟩ : ∃ z, Hid (decide (x.val = 0) = z) := ⟨_, rfl⟩
        rw [hzb.out] at HZ
        obtain ⟨i1, hi1⟩ : ∃ z : Nat, Hid ((i + 1 : Nat) = z) := ⟨_, rfl⟩
        have j1 : IntKind.i64.wrap ((i : Int) + 1) = (i1 : Int) := by rw [IntKind.wrap_i64, ← hi1.out]; omega
        have j2 : IntKind.i32.wrap (i : Int) = (i : Int) := by rw [IntKind.wrap_i32]; omega
        have hkl := kS_len (rkF A n1) ls i
        have hxk := hr.kLt
        have hrk2 := hr.key
        have hrv2 := hr.val
        obtain ⟨LK, hLK⟩ : ∃ z, Hid (kS (rkF A n1) ls i = z) := ⟨_, rfl⟩
        rw [hLK.out] at hG hkl hno hye
        replace hno := (show Hid _ from hno)
        replace hye := (show Hid _ from hye)
        clear hcr hr hxe q6
        rcases Nat.eq_zero_or_pos rk with hz | hz
        · subst hz
          have hno2 := (show Hid _ from hno.out (fun q => absurd q.1 (Nat.lt_irrefl 0)))
          clear hno hye
          go_wp2_with (first | ((with_reducible (refine Veil.out ?_; apply wl_loadC oneX78)); (case hw => rfl); (case hx => rfl); (case hc => exact K36 _ hEw)) | ((with_reducible (refine Veil.out ?_; apply wl_loadC oneX21)); (case hw => go_simp); (case hx => rfl); (case hc => exact KS0 _ (by (repeat (first | with_reducible exact Ext.refl _ | with_reducible assumption | refine Ext.trans ?_ (by with_reducible assumption) | refine Ext.alloc ?_ _ _ | refine Ext.drew ?_ | refine Ext.drewN ?_ _))))) | ((with_reducible (refine Veil.out ?_; apply wl_loadC oneX21)); (case hw => go_simp); (case hx => rfl); (case hc => exact KR _ (by (repeat (first | with_reducible exact Ext.refl _ | with_reducible assumption | refine Ext.trans ?_ (by with_reducible assumption) | refine Ext.alloc ?_ _ _ | refine Ext.drew ?_ | refine Ext.drewN ?_ _))))))
          go_roundw
          case rel =>
            have h9 := hi1.out
            refine ⟨i1, rfl, by omega, ?_, hE⟩
            rw [← h9, hno2.out]
            exact hG
          case measure => exact meas_ltE hi1.out hlt
        · have z4 : (0 : Int) < rk := by omega
          have z4d : decide ((0 : Int) < rk) = true := decide_eq_true z4
          cases zb with
          | true =>
            have hno2 := (show Hid _ from hno.out (fun q => q.2 (of_decide_eq_true hzb.out)))
            clear hno hye
            go_wp2_with (first | ((with_reducible (refine Veil.out ?_; apply wl_loadC oneX78)); (case hw => rfl); (case hx => rfl); (case hc => exact K36 _ hEw)) | ((with_reducible (refine Veil.out ?_; apply wl_loadC oneX21)); (case hw => go_simp); (case hx => rfl); (case hc => exact KS0 _ (by (repeat (first | with_reducible exact Ext.refl _ | with_reducible assumption | refine Ext.trans ?_ (by with_reducible assumption) | refine Ext.alloc ?_ _ _ | refine Ext.drew ?_ | refine Ext.drewN ?_ _))))) | ((with_reducible (refine Veil.out ?_; apply wl_loadC oneX21)); (case hw => go_simp); (case hx => rfl); (case hc => exact KR _ (by (repeat (first | with_reducible exact Ext.refl _ | with_reducible assumption | refine Ext.trans ?_ (by with_reducible assumption) | refine Ext.alloc ?_ _ _ | refine Ext.drew ?_ | refine Ext.drewN ?_ _))))) | ((with_reducible (refine Veil.out ?_; apply wlG_loadWB)); (case hw => go_simp); (case hx => rfl); (case hB => exact q4.ext (hEw.trans (by (repeat (first | with_reducible exact Ext.refl _ | with_reducible assumption | refine Ext.trans ?_ (by with_reducible assumption) | refine Ext.alloc ?_ _ _ | refine Ext.drew ?_ | refine Ext.drewN ?_ _))))); (case hW => exact hrv2); (case hi => omega)) | (go_at_call 87; refine (HZ _).mono ?_; rintro e w7 ⟨rfl, he7⟩))
            go_roundw
            case rel =>
              have h9 := hi1.out
              refine ⟨i1, rfl, by omega, ?_, hE.trans he7⟩
              rw [← h9, hno2.out]
              exact hG.ext he7 (fun _ _ _ k => k)
            case measure => exact meas_ltE hi1.out hlt
          | false =>
            have hye2 := (show Hid _ from hye.out ⟨hz, of_decide_eq_false hzb.out⟩)
            clear hno hye
            go_upto_region 26 with (first | ((with_reducible (refine Veil.out ?_; apply wl_loadC oneX78)); (case hw => rfl); (case hx => rfl); (case hc => exact K36 _ hEw)) | ((with_reducible (refine Veil.out ?_; apply wl_loadC oneX21)); (case hw => go_simp); (case hx => rfl); (case hc => exact KS0 _ (by (repeat (first | with_reducible exact Ext.refl _ | with_reducible assumption | refine Ext.trans ?_ (by with_reducible assumption) | refine Ext.alloc ?_ _ _ | refine Ext.drew ?_ | refine Ext.drewN ?_ _))))) | ((with_reducible (refine Veil.out ?_; apply wl_loadC oneX21)); (case hw => go_simp); (case hx => rfl); (case hc => exact KR _ (by (repeat (first | with_reducible exact Ext.refl _ | with_reducible assumption | refine Ext.trans ?_ (by with_reducible assumption) | refine Ext.alloc ?_ _ _ | refine Ext.drew ?_ | refine Ext.drewN ?_ _))))) | ((with_reducible (refine Veil.out ?_; apply wlG_loadWB)); (case hw => go_simp); (case hx => rfl); (case hB => exact q4.ext (hEw.trans (by (repeat (first | with_reducible exact Ext.refl _ | with_reducible assumption | refine Ext.trans ?_ (by with_reducible assumption) | refine Ext.alloc ?_ _ _ | refine Ext.drew ?_ | refine Ext.drewN ?_ _))))); (case hW => exact hrv2); (case hi => omega)) | (go_at_call 87; refine (HZ _).mono ?_; rintro e w7 ⟨rfl, he7⟩))
            have hE7 : Ext W5 w7 := hE.trans he7
            have hG7 : GRow 179 6 SKR (fun b => W5.heap.size ≤ b) w7 v LK := hG.ext he7 (fun _ _ _ k => k)
            have bS7 : Blk w7 bS (scap * 14) 185 dS := q4.ext (hEw.trans he7)
            have hS5 : ¬ W5.heap.size ≤ bS := fun q => by have := hE5.size; omega
            have hR5 : ¬ W5.heap.size ≤ BR := fun q => by have := bR5.lt; omega
            have KS1 : ∀ W, Mod (fun b => W5.heap.size ≤ b) w7 W → W.cell? ⟨bS, i * 14, none⟩ = some (.int .i32 (x.acct : Nat)) := fun W hW => by rw [(bS7.mod hW hS5).cell (by omega)]; have := KS0 _ he7; rw [bS7.cell (by omega)] at this; exact this
            have KR1 : ∀ W, Mod (fun b => W5.heap.size ≤ b) w7 W → W.cell? ⟨BR, x.acct, none⟩ = some (.int .i32 (rk : Nat)) := fun W hW => by rw [((bR5.ext hE7).mod hW hR5).cell (by omega)]; have := KR _ he7; rw [(bR5.ext hE7).cell (by omega)] at this; exact this
            refine w_ext ?_
            rintro W0 hW0
            refine wp_region_held_drew (S := fun w' => Mod (fun b => W5.heap.size ≤ b) W0 w') (by kernel_rfl) (Mod.refl _ _).drew (fun hHeld => ?_)
            have HH : Hid (Mod (fun b => W5.heap.size ≤ b) W0 _) := hHeld
            clear hHeld
            refine wpAnyH_take (i := 0) (v := ?_) rfl (by kernel_rfl) (by kernel_rfl) (by kernel_rfl) (fun _ _ _ h => h) (Or.inl ⟨by rfl, ?_⟩) HH.out ?_
            rotate_left
            · intro w hSw; go_simp; try with_reducible rfl
            change wpAnyH _ _ _ _ _ _ _ (Act.put _ (some 155) _) _
            simp only [Act.put, List.setIfInBounds_toArray, List.set_cons_zero, List.set_cons_succ]
            refine wpAnyH_take (i := 1) (v := ?_) rfl (by kernel_rfl) (by kernel_rfl) (by kernel_rfl) (fun _ _ _ h => h) (Or.inl ⟨by rfl, ?_⟩) HH.out ?_
            rotate_left
            · intro w hSw; go_simp; try with_reducible rfl
            change wpAnyH _ _ _ _ _ _ _ (Act.put _ (some 156) _) _
            simp only [Act.put, List.setIfInBounds_toArray, List.set_cons_zero, List.set_cons_succ]
            refine wpAnyH_take (i := 2) (v := ?_) rfl (by kernel_rfl) (by kernel_rfl) (by kernel_rfl) (fun _ _ _ h => h) (Or.inl ⟨by rfl, ?_⟩) HH.out ?_
            rotate_left
            · intro w hSw; go_simp; try with_reducible rfl
            change wpAnyH _ _ _ _ _ _ _ (Act.put _ (some 157) _) _
            simp only [Act.put, List.setIfInBounds_toArray, List.set_cons_zero, List.set_cons_succ]
            refine wpAnyH_take (i := 3) (v := ?_) rfl (by kernel_rfl) (by kernel_rfl) (by kernel_rfl) (fun _ _ _ h => h) (Or.inl ⟨by rfl, ?_⟩) HH.out ?_
            rotate_left
            · intro w hSw; go_simp; try with_reducible rfl
            change wpAnyH _ _ _ _ _ _ _ (Act.put _ (some 158) _) _
            simp only [Act.put, List.setIfInBounds_toArray, List.set_cons_zero, List.set_cons_succ]
            refine wpAnyH_take (i := 4) (v := ?_) rfl (by kernel_rfl) (by kernel_rfl) (by kernel_rfl) (fun _ _ _ h => h) (Or.inl ⟨by rfl, ?_⟩) HH.out ?_
            rotate_left
            · intro w hSw; go_simp; try with_reducible rfl
            change wpAnyH _ _ _ _ _ _ _ (Act.put _ (some 159) _) _
            simp only [Act.put, List.setIfInBounds_toArray, List.set_cons_zero, List.set_cons_succ]
            refine wpAnyH_take (i := 5) rfl (by kernel_rfl) (by kernel_rfl) (by kernel_rfl) (fun _ _ _ h => h) (yieldsIf_load1 (by rfl) _ _ rfl _ _ rfl oneX21 _ (fun w hSw => KS1 _ ((hW0.mod _).trans hSw))) HH.out ?_
            change wpAnyH _ _ _ _ _ _ _ (Act.put _ (some 160) _) _
            simp only [Act.put, List.setIfInBounds_toArray, List.set_cons_zero, List.set_cons_succ]
            refine wpAnyH_take (i := 6) (v := ?_) rfl (by kernel_rfl) (by kernel_rfl) (by kernel_rfl) (fun _ _ _ h => h) (Or.inl ⟨by rfl, ?_⟩) HH.out ?_
            rotate_left
            · intro w hSw; go_simp; try with_reducible rfl
            change wpAnyH _ _ _ _ _ _ _ (Act.put _ (some 161) _) _
            simp only [Act.put, List.setIfInBounds_toArray, List.set_cons_zero, List.set_cons_succ]
            refine wpAnyH_take (i := 7) rfl (by kernel_rfl) (by kernel_rfl) (by kernel_rfl) (fun _ _ _ h => h) (yieldsIf_load1 (by rfl) _ _ rfl _ _ rfl oneX21 _ (fun w hSw => KR1 _ ((hW0.mod _).trans hSw))) HH.out ?_
            change wpAnyH _ _ _ _ _ _ _ (Act.put _ (some 162) _) _
            simp only [Act.put, List.setIfInBounds_toArray, List.set_cons_zero, List.set_cons_succ]
            refine wpAnyH_take (i := 8) (v := ?_) rfl (by kernel_rfl) (by kernel_rfl) (by kernel_rfl) (fun _ _ _ h => h) (Or.inl ⟨by rfl, ?_⟩) HH.out ?_
            rotate_left
            · intro w hSw; go_simp; try with_reducible rfl
            change wpAnyH _ _ _ _ _ _ _ (Act.put _ (some 163) _) _
            simp only [Act.put, List.setIfInBounds_toArray, List.set_cons_zero, List.set_cons_succ]
            refine wpAnyH_take (i := 9) (v := ?_) rfl (by kernel_rfl) (by kernel_rfl) (by kernel_rfl) (fun _ _ _ h => h) (Or.inl ⟨by rfl, ?_⟩) HH.out ?_
            rotate_left
            · intro w hSw; go_simp; try with_reducible rfl
            change wpAnyH _ _ _ _ _ _ _ (Act.put _ (some 164) _) _
            simp only [Act.put, List.setIfInBounds_toArray, List.set_cons_zero, List.set_cons_succ]
            refine wpAnyH_take (i := 10) (v := ?_) rfl (by kernel_rfl) (by kernel_rfl) (by kernel_rfl) (fun _ _ _ h => h) (Or.inl ⟨by rfl, ?_⟩) HH.out ?_
            rotate_left
            · intro w hSw; go_simp; try with_reducible rfl
            change wpAnyH _ _ _ _ _ _ _ (Act.put _ (some 165) _) _
            simp only [Act.put, List.setIfInBounds_toArray, List.set_cons_zero, List.set_cons_succ]
            refine wpAnyH_take (i := 11) rfl (by kernel_rfl) (by kernel_rfl) (by kernel_rfl) (fun _ _ _ h => h) (yields_W (by rfl) rfl rfl (fun w hSw => bS7.mod ((hW0.mod _).trans hSw) hS5) hrk2 (by omega)) HH.out ?_
            change wpAnyH _ _ _ _ _ _ _ (Act.put _ (some 166) _) _
            simp only [Act.put, List.setIfInBounds_toArray, List.set_cons_zero, List.set_cons_succ]
            refine wpAnyH_take (i := 12) (v := ?_) rfl (by kernel_rfl) (by kernel_rfl) (by kernel_rfl) (fun _ _ _ h => h) (Or.inl ⟨by rfl, ?_⟩) HH.out ?_
            rotate_left
            · intro w hSw; go_simp; try with_reducible rfl
            change wpAnyH _ _ _ _ _ _ _ (Act.put _ (some 167) _) _
            simp only [Act.put, List.setIfInBounds_toArray, List.set_cons_zero, List.set_cons_succ]
            refine wpAnyH_take (i := 13) (v := ?_) rfl (by kernel_rfl) (by kernel_rfl) (by kernel_rfl) (fun _ _ _ h => h) (Or.inl ⟨by rfl, ?_⟩) HH.out ?_
            rotate_left
            · intro w hSw; go_simp; try with_reducible rfl
            change wpAnyH _ _ _ _ _ _ _ (Act.put _ (some 168) _) _
            simp only [Act.put, List.setIfInBounds_toArray, List.set_cons_zero, List.set_cons_succ]
            refine wpAnyH_take (i := 14) rfl (by kernel_rfl) (by kernel_rfl) (by kernel_rfl) (fun _ _ _ h => h) (yields_build (ps := [(0, .int .i32 (rk : Nat)), (1, wv x.key), (2, .int .i32 (i : Nat))]) (by rfl) rfl (b171b rk x.key i) (by simp [Act.eval])) HH.out ?_
            change wpAnyH _ _ _ _ _ _ _ (Act.put _ (some 169) _) _
            simp only [Act.put, List.setIfInBounds_toArray, List.set_cons_zero, List.set_cons_succ]
            refine wpAnyH_ready (rs := [15]) (by kernel_rfl) (by simp) ?_
            refine AllReadyH.cons rfl (fun K hK => ?_) AllReadyH.nil
            refine step_any rfl (op_build1 179 Hvah.t179 _ 6 rfl under166s info171x zero171x size171x rfl (by decide) (by decide) (skR rk x.key i) rfl rfl ?_)
            rintro B9 W9 e9 r9 g9
            refine hK.out _ _ ?_ (fun hHeld => ?_)
            · exact HH.out.trans_ext e9
            clear hK K HH
            have HH : Hid (Mod (fun b => W5.heap.size ≤ b) W0 _) := hHeld
            clear hHeld
            change wpAnyH _ _ _ _ _ _ _ (Act.put _ (some 170) _) _
            simp only [Act.put, List.setIfInBounds_toArray, List.set_cons_zero, List.set_cons_succ]
            refine wpAnyH_ready (rs := [16]) (by kernel_rfl) (by simp) ?_
            refine AllReadyH.cons rfl (fun K hK => ?_) AllReadyH.nil
            refine step_any rfl (op_pushN _ _ 174 rfl sl166x (R := fun _ _ => SKR) (fun _ => False) v LK (fun b => W5.heap.size ≤ b) (fun b hb => Nat.le_trans (hE7.trans (hW0.trans (by (repeat (first | with_reducible exact Ext.refl _ | with_reducible assumption | refine Ext.trans ?_ (by with_reducible assumption) | refine Ext.alloc ?_ _ _ | refine Ext.drew ?_ | refine Ext.drewN ?_ _))))).size hb) (hG7.ext (hW0.trans (by (repeat (first | with_reducible exact Ext.refl _ | with_reducible assumption | refine Ext.trans ?_ (by with_reducible assumption) | refine Ext.alloc ?_ _ _ | refine Ext.drew ?_ | refine Ext.drewN ?_ _)))) (fun _ _ _ k => k)) (by omega) ⟨B9, 0, none⟩ (skR rk x.key i) rfl r9 (skR_one _ _ _) rfl rfl ⟨rk, x.key, i⟩ (skR_row hxk) (fun _ _ _ _ _ _ q k => skr_move q k) (fun _ _ _ _ _ _ _ _ _ k => k) (fun _ _ _ _ _ _ _ k => k) ?_)
            rintro v9 W10 hG10 m10 _
            refine hK.out _ _ ?_ (fun hHeld => ?_)
            · exact HH.out.trans m10
            clear hK K HH
            have HH : Hid (Mod (fun b => W5.heap.size ≤ b) W0 _) := hHeld
            clear hHeld
            change wpAnyH _ _ _ _ _ _ _ (Act.put _ (some 171) _) _
            simp only [Act.put, List.setIfInBounds_toArray, List.set_cons_zero, List.set_cons_succ]
            refine wpAnyH_take (i := 17) (v := ?_) rfl (by kernel_rfl) (by kernel_rfl) (by kernel_rfl) (fun _ _ _ h => h) (Or.inl ⟨by rfl, ?_⟩) HH.out ?_
            rotate_left
            · intro w hSw; go_simp; try with_reducible rfl
            change wpAnyH _ _ _ _ _ _ _ (Act.put _ (some 10) _) _
            simp only [Act.put, List.setIfInBounds_toArray, List.set_cons_zero, List.set_cons_succ]
            refine wpAnyH_done (by kernel_rfl) ?_ _
            have e10 : Ext W5 W10 := Ext.trans_mod (hE7.trans hW0) HH.out (fun q hq => hq)
            clear HH
            go_wp2
            go_roundw
            case rel =>
              have h9 := hi1.out
              refine ⟨i1, rfl, by omega, ?_, e10⟩
              rw [← h9, hye2.out]
              exact hG10
            case measure => exact meas_ltE hi1.out hlt
      · have z1 : ¬ (i : Int) < nS := by omega
        obtain rfl : i = nS := by omega
        go_wp2
        go_meet
        case rel => exact ⟨hG, hE⟩
  case rest =>
  obtain ⟨W6, e9⟩ : ∃ X, X = wc := ⟨_, rfl⟩
  subst e9
  obtain ⟨hG6, hE6⟩ := hcut
  obtain ⟨v6, ev6⟩ : ∃ z, z = u10 := ⟨_, rfl⟩
  subst ev6
  have hkS0 := kS_len (rkF A n1) ls nS
  have HSo := vSorted (fun b hb => Nat.le_trans hE6.size hb) hG6 (by omega)
  go_upto_region 29 with (go_at_call 84; refine HSo.mono ?_; rintro e W7 ⟨v7, S, rfl, hGS, hSp, hSs, mS⟩)
  have hE7 : Ext W5 W7 := Ext.trans_mod hE6 mS (fun _ q => q)
  clear HSo hG6 mS
  obtain ⟨o3, cap3, hv3⟩ := hGS.sliceX
  obtain ⟨n2, hn2⟩ : ∃ z, Hid (S.length = z) := ⟨_, rfl⟩
  have hSl : S.length ≤ nS := by rw [hSp.length_eq]; exact hkS0
  have hSm : ∀ (i : Nat) (hi : i < S.length), S[i].k < ls.length ∧ 0 < S[i].r ∧ S[i].r ≤ n1 := fun i hi => by
    obtain ⟨q1, q2, _, q4, _⟩ := kS_mem.1 (hSp.mem_iff.1 (List.getElem_mem hi))
    rw [q4]
    exact ⟨by rw [hnS.out]; exact q1, q2, rk_le (by omega)⟩
  have hSr2 : ∀ (i j : Nat) (hi : i < S.length) (hj : j < S.length), i ≤ j → S[i].r ≤ S[j].r := fun i j hi hj hij => by
    rcases Nat.lt_or_ge i j with q | q
    · have := SKle.iff.1 (List.pairwise_iff_getElem.1 hSs i j hi hj q)
      omega
    · obtain rfl : i = j := by omega
      exact Nat.le_refl _
  rw [hn2.out] at hv3 hSl
  subst hv3
  have hE7w : Ext w W7 := hE5.trans hE7
  have bW7 := bW5.ext hE7
  have hcW7 : Hid (∀ q, q < n1 → IAcC O2 W7 cW (q * 55) (acE la ls A [] q).outV) := (fun q hq => (hcW.out q hq).ext hE7 : ∀ q, q < n1 → _)
  have hWl5 := bW5.lt
  have hO2s7 : Small O2 W7 := fun b hb => Nat.lt_of_lt_of_le (hO2s b hb) (Nat.le_trans hM5.size hE7.size)
  clear hcW bR5 hcR bR4 hAm
  go_upto_block 6 with (fail)
  try simp only [Act.put]
  go_cut [] (fun wx => ∃ cW', Blk wx BW (n1 * 55) 58 cW' ∧ Hid (∀ q, q < n1 → IAcC O2 wx cW' (q * 55) (acE la ls A S q).outV) ∧ Mod (fun b => b = BW) W7 wx)
  case first =>
    go_upto_region 30 with (fail)
    try simp only [Act.put]
    go_loopw [13] (fun fv wr => ∃ (fr : Nat) (cW' : Nat → Value), fv = .int .i64 (fr : Nat) ∧ fr ≤ n2 ∧ Hid (∀ (i j : Nat) (hi : i < S.length) (hj : j < S.length), i < fr → fr ≤ j → S[i].r ≠ S[j].r) ∧ Blk wr BW (n1 * 55) 58 cW' ∧ Hid (∀ q, q < n1 → IAcC O2 wr cW' (q * 55) (acE la ls A (S.take fr) q).outV) ∧ Mod (fun b => b = BW) W7 wr) (fun fv _ => n2 - (intOf fv).toNat)
    case atStart => exact ⟨0, cW, rfl, Nat.zero_le _, (fun i j hi hj h1 _ => absurd h1 (Nat.not_lt_zero _) : ∀ (i j : Nat) (hi : i < S.length) (hj : j < S.length), i < 0 → 0 ≤ j → S[i].r ≠ S[j].r), bW7, by rw [List.take_zero]; exact hcW7, Mod.refl _ _⟩
    case round =>
      obtain ⟨fr, cWr, rfl, hfr, hbd, bWr, hcWr, hMr⟩ := hrel
      obtain ⟨WR, eWR⟩ : ∃ X, X = wr := ⟨_, rfl⟩
      subst eWR
      rcases Nat.lt_or_ge fr n2 with hlt | hge
      · have z1 : (fr : Int) < n2 := by omega
        have hfS : fr < S.length := by rw [hn2.out]; exact hlt
        rcases hGS with ⟨q, _⟩ | ⟨bQ, cQ, dQ, p1, p2, p3, p4, p5, p6⟩
        · rw [q] at hfS; exact absurd hfS (Nat.not_lt_zero _)
        rw [hn2.out] at p1 p2
        injection p1 with p1a p1b p1c
        subst p1a
        subst p1c
        clear p1b
        have hQW : ¬ bQ = BW := fun q => by have p5' : W5.heap.size ≤ bQ := p5; omega
        have bQr : Blk WR bQ (cap3 * 6) 179 dQ := p4.mod hMr hQW
        have hkf := (p6 fr hfS).1.rank
        obtain ⟨hyk, hyr0, hyr1⟩ := hSm fr hfS
        obtain ⟨y, hy⟩ : ∃ z, Hid (S[fr] = z) := ⟨S[fr], rfl⟩
        rw [hy.out] at hkf hyk hyr0 hyr1
        go_upto_block 8 with (fail)
        try simp only [Act.put]
        go_cut [14] (fun nv wx => ∃ (m : Nat), nv = .int .i64 (m : Nat) ∧ 0 < m ∧ fr + m ≤ n2 ∧ Hid (∀ (k : Nat) (hk : fr + k < S.length), k < m → S[fr + k].r = y.r) ∧ Hid (∀ (hk : fr + m < S.length), S[fr + m].r ≠ y.r) ∧ Ext WR wx)
        case first =>
          go_upto_region 32 with (fail)
          try simp only [Act.put]
          go_loopw [14] (fun nv wx => ∃ (m : Nat), nv = .int .i64 (m : Nat) ∧ fr + m ≤ n2 ∧ Hid (∀ (k : Nat) (hk : fr + k < S.length), k < m → S[fr + k].r = y.r) ∧ Ext WR wx) (fun nv _ => n2 - (intOf nv).toNat)
          case atStart => exact ⟨0, rfl, by omega, (fun k hk h => absurd h (Nat.not_lt_zero _) : ∀ (k : Nat) (hk : fr + k < S.length), k < 0 → S[fr + k].r = y.r), Ext.refl _⟩
          case round =>
            obtain ⟨m, rfl, hm, hall, hEx⟩ := hrel
            obtain ⟨fm, hfm⟩ : ∃ z, Hid (fr + m = z) := ⟨_, rfl⟩
            have hfm2 := hfm.out
            have jf : IntKind.i64.wrap ((fr : Int) + (m : Int)) = (fm : Int) := by rw [IntKind.wrap_i64]; omega
            rcases Nat.lt_or_ge fm n2 with hl2 | hg2
            · have zf : (fm : Int) < n2 := by omega
              have hfmS : fm < S.length := by rw [hn2.out]; exact hl2
              have hkm := (p6 fm hfmS).1.rank
              obtain ⟨y2, hy2⟩ : ∃ z, Hid (S[fm] = z) := ⟨S[fm], rfl⟩
              rw [hy2.out] at hkm
              obtain ⟨m1, hm1⟩ : ∃ z : Nat, Hid ((m + 1 : Nat) = z) := ⟨_, rfl⟩
              have jm : IntKind.i64.wrap ((m : Int) + 1) = (m1 : Int) := by rw [IntKind.wrap_i64, ← hm1.out]; omega
              have hc1 : fm * 6 + 6 ≤ cap3 * 6 := by omega
              have hc2 : fr * 6 + 6 ≤ cap3 * 6 := by omega
              replace hm : Hid _ := hm
              clear hfm2
              by_cases hq : y2.r = y.r
              · have zq : ((y2.r : Nat) : Int) = (y.r : Int) := by omega
                rw [hq] at hkm
                replace hq := (show Hid _ from hq)
                clear zq
                go_upto_region 32 with (fail)
                refine w_ext ?_
                rintro W0 hW0
                refine wp_region_held_drew (S := fun w' => Ext W0 w') (by kernel_rfl) (Ext.refl _).drew (fun hHeld => ?_)
                have HH : Hid (Ext W0 _) := hHeld
                clear hHeld
                refine wpAnyH_take (i := 0) (v := ?_) rfl (by kernel_rfl) (by kernel_rfl) (by kernel_rfl) (fun _ _ _ h => h) (Or.inl ⟨by rfl, ?_⟩) HH.out ?_
                rotate_left
                · intro w hSw; go_simp; try with_reducible rfl
                change wpAnyH _ _ _ _ _ _ _ (Act.put _ (some 179) _) _
                simp only [Act.put, List.setIfInBounds_toArray, List.set_cons_zero, List.set_cons_succ]
                refine wpAnyH_take (i := 1) (v := ?_) rfl (by kernel_rfl) (by kernel_rfl) (by kernel_rfl) (fun _ _ _ h => h) (Or.inl ⟨by rfl, ?_⟩) HH.out ?_
                rotate_left
                · intro w hSw; go_simp; try with_reducible rfl
                change wpAnyH _ _ _ _ _ _ _ (Act.put _ (some 180) _) _
                simp only [Act.put, List.setIfInBounds_toArray, List.set_cons_zero, List.set_cons_succ]
                refine wpAnyH_take (i := 2) (v := ?_) rfl (by kernel_rfl) (by kernel_rfl) (by kernel_rfl) (fun _ _ _ h => h) (Or.inl ⟨by rfl, ?_⟩) HH.out ?_
                rotate_left
                · intro w hSw; go_simp; try with_reducible rfl
                change wpAnyH _ _ _ _ _ _ _ (Act.put _ (some 181) _) _
                simp only [Act.put, List.setIfInBounds_toArray, List.set_cons_zero, List.set_cons_succ]
                refine wpAnyH_take (i := 3) (v := ?_) rfl (by kernel_rfl) (by kernel_rfl) (by kernel_rfl) (fun _ _ _ h => h) (Or.inl ⟨by rfl, ?_⟩) HH.out ?_
                rotate_left
                · intro w hSw; go_simp; try with_reducible rfl
                change wpAnyH _ _ _ _ _ _ _ (Act.put _ (some 182) _) _
                simp only [Act.put, List.setIfInBounds_toArray, List.set_cons_zero, List.set_cons_succ]
                refine wpAnyH_take (i := 4) (v := ?_) rfl (by kernel_rfl) (by kernel_rfl) (by kernel_rfl) (fun _ _ _ h => h) (Or.inl ⟨by rfl, ?_⟩) HH.out ?_
                rotate_left
                · intro w hSw; go_simp; try with_reducible rfl
                change wpAnyH _ _ _ _ _ _ _ (Act.put _ (some 183) _) _
                simp only [Act.put, List.setIfInBounds_toArray, List.set_cons_zero, List.set_cons_succ]
                refine wpAnyH_take (i := 5) (v := .bool true) rfl (by kernel_rfl) (by kernel_rfl) (by kernel_rfl) (fun _ _ _ h => h) (Or.inl ⟨by rfl, ?_⟩) HH.out ?_
                · intro w hSw; go_simp; first | rfl | omega | done
                change wpAnyH _ _ _ _ _ _ _ (Act.put _ (some 184) _) _
                simp only [Act.put, List.setIfInBounds_toArray, List.set_cons_zero, List.set_cons_succ]
                refine wpAnyH_take (i := 6) (v := ?_) rfl (by kernel_rfl) (by kernel_rfl) (by kernel_rfl) (fun _ _ _ h => h) (Or.inl ⟨by rfl, ?_⟩) HH.out ?_
                rotate_left
                · intro w hSw; go_simp; try with_reducible rfl
                change wpAnyH _ _ _ _ _ _ _ (Act.put _ (some 185) _) _
                simp only [Act.put, List.setIfInBounds_toArray, List.set_cons_zero, List.set_cons_succ]
                refine wpAnyH_take (i := 7) (v := ?_) rfl (by kernel_rfl) (by kernel_rfl) (by kernel_rfl) (fun _ _ _ h => h) (Or.inl ⟨by rfl, ?_⟩) HH.out ?_
                rotate_left
                · intro w hSw; go_simp; try with_reducible rfl
                change wpAnyH _ _ _ _ _ _ _ (Act.put _ (some 186) _) _
                simp only [Act.put, List.setIfInBounds_toArray, List.set_cons_zero, List.set_cons_succ]
                refine wpAnyH_take (i := 8) (v := ?_) rfl (by kernel_rfl) (by kernel_rfl) (by kernel_rfl) (fun _ _ _ h => h) (Or.inl ⟨by rfl, ?_⟩) HH.out ?_
                rotate_left
                · intro w hSw; go_simp; try with_reducible rfl
                change wpAnyH _ _ _ _ _ _ _ (Act.put _ (some 187) _) _
                simp only [Act.put, List.setIfInBounds_toArray, List.set_cons_zero, List.set_cons_succ]
                refine wpAnyH_take (i := 9) (v := ?_) rfl (by kernel_rfl) (by kernel_rfl) (by kernel_rfl) (fun _ _ _ h => h) (Or.inl ⟨by rfl, ?_⟩) HH.out ?_
                rotate_left
                · intro w hSw; go_simp; try with_reducible rfl
                change wpAnyH _ _ _ _ _ _ _ (Act.put _ (some 188) _) _
                simp only [Act.put, List.setIfInBounds_toArray, List.set_cons_zero, List.set_cons_succ]
                refine wpAnyH_take (i := 10) (v := ?_) rfl (by kernel_rfl) (by kernel_rfl) (by kernel_rfl) (fun _ _ _ h => h) (Or.inl ⟨by rfl, ?_⟩) HH.out ?_
                rotate_left
                · intro w hSw; go_simp; try with_reducible rfl
                change wpAnyH _ _ _ _ _ _ _ (Act.put _ (some 189) _) _
                simp only [Act.put, List.setIfInBounds_toArray, List.set_cons_zero, List.set_cons_succ]
                refine wpAnyH_take (i := 11) (v := ?_) rfl (by kernel_rfl) (by kernel_rfl) (by kernel_rfl) (fun _ _ _ h => h) (Or.inl ⟨by rfl, ?_⟩) HH.out ?_
                rotate_left
                · intro w hSw; go_simp; try with_reducible rfl
                change wpAnyH _ _ _ _ _ _ _ (Act.put _ (some 190) _) _
                simp only [Act.put, List.setIfInBounds_toArray, List.set_cons_zero, List.set_cons_succ]
                refine wpAnyH_take (i := 12) (v := ?_) rfl (by kernel_rfl) (by kernel_rfl) (by kernel_rfl) (fun _ _ _ h => h) (Or.inl ⟨by rfl, ?_⟩) HH.out ?_
                rotate_left
                · intro w hSw; go_simp; try with_reducible rfl
                change wpAnyH _ _ _ _ _ _ _ (Act.put _ (some 191) _) _
                simp only [Act.put, List.setIfInBounds_toArray, List.set_cons_zero, List.set_cons_succ]
                refine wpAnyH_take (i := 13) rfl (by kernel_rfl) (by kernel_rfl) (by kernel_rfl) (fun _ _ _ h => h) (yieldsIf_load1 (by rfl) _ _ rfl _ _ rfl oneX21 _ (fun w hSw => by rw [(bQr.ext (hEx.trans (hW0.trans hSw))).cell (by omega), hkm])) HH.out ?_
                change wpAnyH _ _ _ _ _ _ _ (Act.put _ (some 192) _) _
                simp only [Act.put, List.setIfInBounds_toArray, List.set_cons_zero, List.set_cons_succ]
                refine wpAnyH_take (i := 14) (v := ?_) rfl (by kernel_rfl) (by kernel_rfl) (by kernel_rfl) (fun _ _ _ h => h) (Or.inl ⟨by rfl, ?_⟩) HH.out ?_
                rotate_left
                · intro w hSw; go_simp; try with_reducible rfl
                change wpAnyH _ _ _ _ _ _ _ (Act.put _ (some 193) _) _
                simp only [Act.put, List.setIfInBounds_toArray, List.set_cons_zero, List.set_cons_succ]
                refine wpAnyH_take (i := 15) (v := ?_) rfl (by kernel_rfl) (by kernel_rfl) (by kernel_rfl) (fun _ _ _ h => h) (Or.inl ⟨by rfl, ?_⟩) HH.out ?_
                rotate_left
                · intro w hSw; go_simp; try with_reducible rfl
                change wpAnyH _ _ _ _ _ _ _ (Act.put _ (some 194) _) _
                simp only [Act.put, List.setIfInBounds_toArray, List.set_cons_zero, List.set_cons_succ]
                refine wpAnyH_take (i := 16) (v := ?_) rfl (by kernel_rfl) (by kernel_rfl) (by kernel_rfl) (fun _ _ _ h => h) (Or.inl ⟨by rfl, ?_⟩) HH.out ?_
                rotate_left
                · intro w hSw; go_simp; try with_reducible rfl
                change wpAnyH _ _ _ _ _ _ _ (Act.put _ (some 195) _) _
                simp only [Act.put, List.setIfInBounds_toArray, List.set_cons_zero, List.set_cons_succ]
                refine wpAnyH_take (i := 17) (v := ?_) rfl (by kernel_rfl) (by kernel_rfl) (by kernel_rfl) (fun _ _ _ h => h) (Or.inl ⟨by rfl, ?_⟩) HH.out ?_
                rotate_left
                · intro w hSw; go_simp; try with_reducible rfl
                change wpAnyH _ _ _ _ _ _ _ (Act.put _ (some 196) _) _
                simp only [Act.put, List.setIfInBounds_toArray, List.set_cons_zero, List.set_cons_succ]
                refine wpAnyH_take (i := 18) rfl (by kernel_rfl) (by kernel_rfl) (by kernel_rfl) (fun _ _ _ h => h) (yieldsIf_load1 (by rfl) _ _ rfl _ _ rfl oneX21 _ (fun w hSw => by rw [(bQr.ext (hEx.trans (hW0.trans hSw))).cell (by omega), hkf])) HH.out ?_
                change wpAnyH _ _ _ _ _ _ _ (Act.put _ (some 197) _) _
                simp only [Act.put, List.setIfInBounds_toArray, List.set_cons_zero, List.set_cons_succ]
                refine wpAnyH_take (i := 19) (v := .bool true) rfl (by kernel_rfl) (by kernel_rfl) (by kernel_rfl) (fun _ _ _ h => h) (Or.inl ⟨by rfl, ?_⟩) HH.out ?_
                · intro w hSw; go_simp; first | rfl | (simp; omega) | done
                change wpAnyH _ _ _ _ _ _ _ (Act.put _ (some 198) _) _
                simp only [Act.put, List.setIfInBounds_toArray, List.set_cons_zero, List.set_cons_succ]
                refine wpAnyH_take (i := 20) (v := ?_) rfl (by kernel_rfl) (by kernel_rfl) (by kernel_rfl) (fun _ _ _ h => h) (Or.inl ⟨by rfl, ?_⟩) HH.out ?_
                rotate_left
                · intro w hSw; go_simp; try with_reducible rfl
                change wpAnyH _ _ _ _ _ _ _ (Act.put _ (some 199) _) _
                simp only [Act.put, List.setIfInBounds_toArray, List.set_cons_zero, List.set_cons_succ]
                refine wpAnyH_done (by kernel_rfl) ?_ _
                have hE32 : Ext WR _ := hEx.trans (hW0.trans HH.out)
                clear HH hW0
                go_wp2
                go_roundw
                case rel =>
                  have h9 := hm1.out
                  have h8 := hfm.out
                  refine ⟨m1, rfl, by omega, ?_, hE32⟩
                  show ∀ (k : Nat) (hk : fr + k < S.length), k < m1 → S[fr + k].r = y.r
                  intro k hk hk2
                  by_cases e : k = m
                  · subst e
                    have : S[fr + k] = S[fm] := by congr 1
                    rw [this, hy2.out]; exact hq.out
                  · exact hall.out k hk (by omega)
                case measure =>
                  have h8 := hfm.out
                  exact meas_ltE hm1.out (by omega)
              · have zq : ¬ ((y2.r : Nat) : Int) = (y.r : Int) := by omega
                have zq2 : (((y2.r : Nat) : Int) == (y.r : Int)) = false := by simp; omega
                have zq3 : decide (((y2.r : Nat) : Int) = (y.r : Int)) = false := decide_eq_false zq
                replace hq := (show Hid _ from hq)
                go_upto_region 32 with (fail)
                refine w_ext ?_
                rintro W0 hW0
                refine wp_region_held_drew (S := fun w' => Ext W0 w') (by kernel_rfl) (Ext.refl _).drew (fun hHeld => ?_)
                have HH : Hid (Ext W0 _) := hHeld
                clear hHeld
                refine wpAnyH_take (i := 0) (v := ?_) rfl (by kernel_rfl) (by kernel_rfl) (by kernel_rfl) (fun _ _ _ h => h) (Or.inl ⟨by rfl, ?_⟩) HH.out ?_
                rotate_left
                · intro w hSw; go_simp; try with_reducible rfl
                change wpAnyH _ _ _ _ _ _ _ (Act.put _ (some 179) _) _
                simp only [Act.put, List.setIfInBounds_toArray, List.set_cons_zero, List.set_cons_succ]
                refine wpAnyH_take (i := 1) (v := ?_) rfl (by kernel_rfl) (by kernel_rfl) (by kernel_rfl) (fun _ _ _ h => h) (Or.inl ⟨by rfl, ?_⟩) HH.out ?_
                rotate_left
                · intro w hSw; go_simp; try with_reducible rfl
                change wpAnyH _ _ _ _ _ _ _ (Act.put _ (some 180) _) _
                simp only [Act.put, List.setIfInBounds_toArray, List.set_cons_zero, List.set_cons_succ]
                refine wpAnyH_take (i := 2) (v := ?_) rfl (by kernel_rfl) (by kernel_rfl) (by kernel_rfl) (fun _ _ _ h => h) (Or.inl ⟨by rfl, ?_⟩) HH.out ?_
                rotate_left
                · intro w hSw; go_simp; try with_reducible rfl
                change wpAnyH _ _ _ _ _ _ _ (Act.put _ (some 181) _) _
                simp only [Act.put, List.setIfInBounds_toArray, List.set_cons_zero, List.set_cons_succ]
                refine wpAnyH_take (i := 3) (v := ?_) rfl (by kernel_rfl) (by kernel_rfl) (by kernel_rfl) (fun _ _ _ h => h) (Or.inl ⟨by rfl, ?_⟩) HH.out ?_
                rotate_left
                · intro w hSw; go_simp; try with_reducible rfl
                change wpAnyH _ _ _ _ _ _ _ (Act.put _ (some 182) _) _
                simp only [Act.put, List.setIfInBounds_toArray, List.set_cons_zero, List.set_cons_succ]
                refine wpAnyH_take (i := 4) (v := ?_) rfl (by kernel_rfl) (by kernel_rfl) (by kernel_rfl) (fun _ _ _ h => h) (Or.inl ⟨by rfl, ?_⟩) HH.out ?_
                rotate_left
                · intro w hSw; go_simp; try with_reducible rfl
                change wpAnyH _ _ _ _ _ _ _ (Act.put _ (some 183) _) _
                simp only [Act.put, List.setIfInBounds_toArray, List.set_cons_zero, List.set_cons_succ]
                refine wpAnyH_take (i := 5) (v := .bool true) rfl (by kernel_rfl) (by kernel_rfl) (by kernel_rfl) (fun _ _ _ h => h) (Or.inl ⟨by rfl, ?_⟩) HH.out ?_
                · intro w hSw; go_simp; first | rfl | omega | done
                change wpAnyH _ _ _ _ _ _ _ (Act.put _ (some 184) _) _
                simp only [Act.put, List.setIfInBounds_toArray, List.set_cons_zero, List.set_cons_succ]
                refine wpAnyH_take (i := 6) (v := ?_) rfl (by kernel_rfl) (by kernel_rfl) (by kernel_rfl) (fun _ _ _ h => h) (Or.inl ⟨by rfl, ?_⟩) HH.out ?_
                rotate_left
                · intro w hSw; go_simp; try with_reducible rfl
                change wpAnyH _ _ _ _ _ _ _ (Act.put _ (some 185) _) _
                simp only [Act.put, List.setIfInBounds_toArray, List.set_cons_zero, List.set_cons_succ]
                refine wpAnyH_take (i := 7) (v := ?_) rfl (by kernel_rfl) (by kernel_rfl) (by kernel_rfl) (fun _ _ _ h => h) (Or.inl ⟨by rfl, ?_⟩) HH.out ?_
                rotate_left
                · intro w hSw; go_simp; try with_reducible rfl
                change wpAnyH _ _ _ _ _ _ _ (Act.put _ (some 186) _) _
                simp only [Act.put, List.setIfInBounds_toArray, List.set_cons_zero, List.set_cons_succ]
                refine wpAnyH_take (i := 8) (v := ?_) rfl (by kernel_rfl) (by kernel_rfl) (by kernel_rfl) (fun _ _ _ h => h) (Or.inl ⟨by rfl, ?_⟩) HH.out ?_
                rotate_left
                · intro w hSw; go_simp; try with_reducible rfl
                change wpAnyH _ _ _ _ _ _ _ (Act.put _ (some 187) _) _
                simp only [Act.put, List.setIfInBounds_toArray, List.set_cons_zero, List.set_cons_succ]
                refine wpAnyH_take (i := 9) (v := ?_) rfl (by kernel_rfl) (by kernel_rfl) (by kernel_rfl) (fun _ _ _ h => h) (Or.inl ⟨by rfl, ?_⟩) HH.out ?_
                rotate_left
                · intro w hSw; go_simp; try with_reducible rfl
                change wpAnyH _ _ _ _ _ _ _ (Act.put _ (some 188) _) _
                simp only [Act.put, List.setIfInBounds_toArray, List.set_cons_zero, List.set_cons_succ]
                refine wpAnyH_take (i := 10) (v := ?_) rfl (by kernel_rfl) (by kernel_rfl) (by kernel_rfl) (fun _ _ _ h => h) (Or.inl ⟨by rfl, ?_⟩) HH.out ?_
                rotate_left
                · intro w hSw; go_simp; try with_reducible rfl
                change wpAnyH _ _ _ _ _ _ _ (Act.put _ (some 189) _) _
                simp only [Act.put, List.setIfInBounds_toArray, List.set_cons_zero, List.set_cons_succ]
                refine wpAnyH_take (i := 11) (v := ?_) rfl (by kernel_rfl) (by kernel_rfl) (by kernel_rfl) (fun _ _ _ h => h) (Or.inl ⟨by rfl, ?_⟩) HH.out ?_
                rotate_left
                · intro w hSw; go_simp; try with_reducible rfl
                change wpAnyH _ _ _ _ _ _ _ (Act.put _ (some 190) _) _
                simp only [Act.put, List.setIfInBounds_toArray, List.set_cons_zero, List.set_cons_succ]
                refine wpAnyH_take (i := 12) (v := ?_) rfl (by kernel_rfl) (by kernel_rfl) (by kernel_rfl) (fun _ _ _ h => h) (Or.inl ⟨by rfl, ?_⟩) HH.out ?_
                rotate_left
                · intro w hSw; go_simp; try with_reducible rfl
                change wpAnyH _ _ _ _ _ _ _ (Act.put _ (some 191) _) _
                simp only [Act.put, List.setIfInBounds_toArray, List.set_cons_zero, List.set_cons_succ]
                refine wpAnyH_take (i := 13) rfl (by kernel_rfl) (by kernel_rfl) (by kernel_rfl) (fun _ _ _ h => h) (yieldsIf_load1 (by rfl) _ _ rfl _ _ rfl oneX21 _ (fun w hSw => by rw [(bQr.ext (hEx.trans (hW0.trans hSw))).cell (by omega), hkm])) HH.out ?_
                change wpAnyH _ _ _ _ _ _ _ (Act.put _ (some 192) _) _
                simp only [Act.put, List.setIfInBounds_toArray, List.set_cons_zero, List.set_cons_succ]
                refine wpAnyH_take (i := 14) (v := ?_) rfl (by kernel_rfl) (by kernel_rfl) (by kernel_rfl) (fun _ _ _ h => h) (Or.inl ⟨by rfl, ?_⟩) HH.out ?_
                rotate_left
                · intro w hSw; go_simp; try with_reducible rfl
                change wpAnyH _ _ _ _ _ _ _ (Act.put _ (some 193) _) _
                simp only [Act.put, List.setIfInBounds_toArray, List.set_cons_zero, List.set_cons_succ]
                refine wpAnyH_take (i := 15) (v := ?_) rfl (by kernel_rfl) (by kernel_rfl) (by kernel_rfl) (fun _ _ _ h => h) (Or.inl ⟨by rfl, ?_⟩) HH.out ?_
                rotate_left
                · intro w hSw; go_simp; try with_reducible rfl
                change wpAnyH _ _ _ _ _ _ _ (Act.put _ (some 194) _) _
                simp only [Act.put, List.setIfInBounds_toArray, List.set_cons_zero, List.set_cons_succ]
                refine wpAnyH_take (i := 16) (v := ?_) rfl (by kernel_rfl) (by kernel_rfl) (by kernel_rfl) (fun _ _ _ h => h) (Or.inl ⟨by rfl, ?_⟩) HH.out ?_
                rotate_left
                · intro w hSw; go_simp; try with_reducible rfl
                change wpAnyH _ _ _ _ _ _ _ (Act.put _ (some 195) _) _
                simp only [Act.put, List.setIfInBounds_toArray, List.set_cons_zero, List.set_cons_succ]
                refine wpAnyH_take (i := 17) (v := ?_) rfl (by kernel_rfl) (by kernel_rfl) (by kernel_rfl) (fun _ _ _ h => h) (Or.inl ⟨by rfl, ?_⟩) HH.out ?_
                rotate_left
                · intro w hSw; go_simp; try with_reducible rfl
                change wpAnyH _ _ _ _ _ _ _ (Act.put _ (some 196) _) _
                simp only [Act.put, List.setIfInBounds_toArray, List.set_cons_zero, List.set_cons_succ]
                refine wpAnyH_take (i := 18) rfl (by kernel_rfl) (by kernel_rfl) (by kernel_rfl) (fun _ _ _ h => h) (yieldsIf_load1 (by rfl) _ _ rfl _ _ rfl oneX21 _ (fun w hSw => by rw [(bQr.ext (hEx.trans (hW0.trans hSw))).cell (by omega), hkf])) HH.out ?_
                change wpAnyH _ _ _ _ _ _ _ (Act.put _ (some 197) _) _
                simp only [Act.put, List.setIfInBounds_toArray, List.set_cons_zero, List.set_cons_succ]
                refine wpAnyH_take (i := 19) (v := .bool false) rfl (by kernel_rfl) (by kernel_rfl) (by kernel_rfl) (fun _ _ _ h => h) (Or.inl ⟨by rfl, ?_⟩) HH.out ?_
                · intro w hSw; go_simp; first | rfl | (simp; omega) | done
                change wpAnyH _ _ _ _ _ _ _ (Act.put _ (some 198) _) _
                simp only [Act.put, List.setIfInBounds_toArray, List.set_cons_zero, List.set_cons_succ]
                refine wpAnyH_take (i := 20) (v := ?_) rfl (by kernel_rfl) (by kernel_rfl) (by kernel_rfl) (fun _ _ _ h => h) (Or.inl ⟨by rfl, ?_⟩) HH.out ?_
                rotate_left
                · intro w hSw; go_simp; try with_reducible rfl
                change wpAnyH _ _ _ _ _ _ _ (Act.put _ (some 199) _) _
                simp only [Act.put, List.setIfInBounds_toArray, List.set_cons_zero, List.set_cons_succ]
                refine wpAnyH_done (by kernel_rfl) ?_ _
                have hE32 : Ext WR _ := hEx.trans (hW0.trans HH.out)
                clear HH hW0
                go_wp2
                go_meet
                case rel =>
                  have h8 := hfm.out
                  have hyy := hy.out
                  have hyy2 := hy2.out
                  refine ⟨m, rfl, ?_, hm.out, hall, ?_, hE32⟩
                  · rcases Nat.eq_zero_or_pos m with e | e
                    · exfalso
                      subst e
                      obtain rfl : fr = fm := by omega
                      rw [hyy] at hyy2
                      exact hq.out (by rw [hyy2])
                    · exact e
                  · show ∀ (hk : fr + m < S.length), S[fr + m].r ≠ y.r
                    intro hk
                    have : S[fr + m] = S[fm] := by congr 1
                    rw [this, hyy2]; exact hq.out
            · have zf : ¬ (fm : Int) < n2 := by omega
              have zfd : decide ((fm : Int) < n2) = false := decide_eq_false zf
              have hmp : 0 < m := by omega
              have hnn : ¬ fr + m < S.length := by rw [hn2.out]; omega
              clear hfm2
              go_upto_region 32 with (fail)
              refine w_ext ?_
              rintro W0 hW0
              refine wp_region_held_drew (S := fun w' => Ext W0 w') (by kernel_rfl) (Ext.refl _).drew (fun hHeld => ?_)
              have HH : Hid (Ext W0 _) := hHeld
              clear hHeld
              refine wpAnyH_take (i := 0) (v := ?_) rfl (by kernel_rfl) (by kernel_rfl) (by kernel_rfl) (fun _ _ _ h => h) (Or.inl ⟨by rfl, ?_⟩) HH.out ?_
              rotate_left
              · intro w hSw; go_simp; try with_reducible rfl
              change wpAnyH _ _ _ _ _ _ _ (Act.put _ (some 179) _) _
              simp only [Act.put, List.setIfInBounds_toArray, List.set_cons_zero, List.set_cons_succ]
              refine wpAnyH_take (i := 1) (v := ?_) rfl (by kernel_rfl) (by kernel_rfl) (by kernel_rfl) (fun _ _ _ h => h) (Or.inl ⟨by rfl, ?_⟩) HH.out ?_
              rotate_left
              · intro w hSw; go_simp; try with_reducible rfl
              change wpAnyH _ _ _ _ _ _ _ (Act.put _ (some 180) _) _
              simp only [Act.put, List.setIfInBounds_toArray, List.set_cons_zero, List.set_cons_succ]
              refine wpAnyH_take (i := 2) (v := ?_) rfl (by kernel_rfl) (by kernel_rfl) (by kernel_rfl) (fun _ _ _ h => h) (Or.inl ⟨by rfl, ?_⟩) HH.out ?_
              rotate_left
              · intro w hSw; go_simp; try with_reducible rfl
              change wpAnyH _ _ _ _ _ _ _ (Act.put _ (some 181) _) _
              simp only [Act.put, List.setIfInBounds_toArray, List.set_cons_zero, List.set_cons_succ]
              refine wpAnyH_take (i := 3) (v := ?_) rfl (by kernel_rfl) (by kernel_rfl) (by kernel_rfl) (fun _ _ _ h => h) (Or.inl ⟨by rfl, ?_⟩) HH.out ?_
              rotate_left
              · intro w hSw; go_simp; try with_reducible rfl
              change wpAnyH _ _ _ _ _ _ _ (Act.put _ (some 182) _) _
              simp only [Act.put, List.setIfInBounds_toArray, List.set_cons_zero, List.set_cons_succ]
              refine wpAnyH_take (i := 4) (v := ?_) rfl (by kernel_rfl) (by kernel_rfl) (by kernel_rfl) (fun _ _ _ h => h) (Or.inl ⟨by rfl, ?_⟩) HH.out ?_
              rotate_left
              · intro w hSw; go_simp; try with_reducible rfl
              change wpAnyH _ _ _ _ _ _ _ (Act.put _ (some 183) _) _
              simp only [Act.put, List.setIfInBounds_toArray, List.set_cons_zero, List.set_cons_succ]
              refine wpAnyH_take (i := 5) (v := .bool false) rfl (by kernel_rfl) (by kernel_rfl) (by kernel_rfl) (fun _ _ _ h => h) (Or.inl ⟨by rfl, ?_⟩) HH.out ?_
              · intro w hSw; go_simp; first | rfl | omega | done
              change wpAnyH _ _ _ _ _ _ _ (Act.put _ (some 184) _) _
              simp only [Act.put, List.setIfInBounds_toArray, List.set_cons_zero, List.set_cons_succ]
              refine wpAnyH_take (i := 6) (v := ?_) rfl (by kernel_rfl) (by kernel_rfl) (by kernel_rfl) (fun _ _ _ h => h) (Or.inl ⟨by rfl, ?_⟩) HH.out ?_
              rotate_left
              · intro w hSw; go_simp; try with_reducible rfl
              change wpAnyH _ _ _ _ _ _ _ (Act.put _ (some 185) _) _
              simp only [Act.put, List.setIfInBounds_toArray, List.set_cons_zero, List.set_cons_succ]
              refine wpAnyH_take (i := 7) (v := undef) rfl (by kernel_rfl) (by kernel_rfl) (by kernel_rfl) (fun _ _ _ h => h) (Or.inr ⟨by rfl, rfl⟩) HH.out ?_
              change wpAnyH _ _ _ _ _ _ _ (Act.put _ (some 186) _) _
              simp only [Act.put, List.setIfInBounds_toArray, List.set_cons_zero, List.set_cons_succ]
              refine wpAnyH_take (i := 8) (v := undef) rfl (by kernel_rfl) (by kernel_rfl) (by kernel_rfl) (fun _ _ _ h => h) (Or.inr ⟨by rfl, rfl⟩) HH.out ?_
              change wpAnyH _ _ _ _ _ _ _ (Act.put _ (some 187) _) _
              simp only [Act.put, List.setIfInBounds_toArray, List.set_cons_zero, List.set_cons_succ]
              refine wpAnyH_take (i := 9) (v := undef) rfl (by kernel_rfl) (by kernel_rfl) (by kernel_rfl) (fun _ _ _ h => h) (Or.inr ⟨by rfl, rfl⟩) HH.out ?_
              change wpAnyH _ _ _ _ _ _ _ (Act.put _ (some 188) _) _
              simp only [Act.put, List.setIfInBounds_toArray, List.set_cons_zero, List.set_cons_succ]
              refine wpAnyH_take (i := 10) (v := undef) rfl (by kernel_rfl) (by kernel_rfl) (by kernel_rfl) (fun _ _ _ h => h) (Or.inr ⟨by rfl, rfl⟩) HH.out ?_
              change wpAnyH _ _ _ _ _ _ _ (Act.put _ (some 189) _) _
              simp only [Act.put, List.setIfInBounds_toArray, List.set_cons_zero, List.set_cons_succ]
              refine wpAnyH_take (i := 11) (v := undef) rfl (by kernel_rfl) (by kernel_rfl) (by kernel_rfl) (fun _ _ _ h => h) (Or.inr ⟨by rfl, rfl⟩) HH.out ?_
              change wpAnyH _ _ _ _ _ _ _ (Act.put _ (some 190) _) _
              simp only [Act.put, List.setIfInBounds_toArray, List.set_cons_zero, List.set_cons_succ]
              refine wpAnyH_take (i := 12) (v := undef) rfl (by kernel_rfl) (by kernel_rfl) (by kernel_rfl) (fun _ _ _ h => h) (Or.inr ⟨by rfl, rfl⟩) HH.out ?_
              change wpAnyH _ _ _ _ _ _ _ (Act.put _ (some 191) _) _
              simp only [Act.put, List.setIfInBounds_toArray, List.set_cons_zero, List.set_cons_succ]
              refine wpAnyH_take (i := 13) (v := undef) rfl (by kernel_rfl) (by kernel_rfl) (by kernel_rfl) (fun _ _ _ h => h) (Or.inr ⟨by rfl, rfl⟩) HH.out ?_
              change wpAnyH _ _ _ _ _ _ _ (Act.put _ (some 192) _) _
              simp only [Act.put, List.setIfInBounds_toArray, List.set_cons_zero, List.set_cons_succ]
              refine wpAnyH_take (i := 14) (v := undef) rfl (by kernel_rfl) (by kernel_rfl) (by kernel_rfl) (fun _ _ _ h => h) (Or.inr ⟨by rfl, rfl⟩) HH.out ?_
              change wpAnyH _ _ _ _ _ _ _ (Act.put _ (some 193) _) _
              simp only [Act.put, List.setIfInBounds_toArray, List.set_cons_zero, List.set_cons_succ]
              refine wpAnyH_take (i := 15) (v := undef) rfl (by kernel_rfl) (by kernel_rfl) (by kernel_rfl) (fun _ _ _ h => h) (Or.inr ⟨by rfl, rfl⟩) HH.out ?_
              change wpAnyH _ _ _ _ _ _ _ (Act.put _ (some 194) _) _
              simp only [Act.put, List.setIfInBounds_toArray, List.set_cons_zero, List.set_cons_succ]
              refine wpAnyH_take (i := 16) (v := undef) rfl (by kernel_rfl) (by kernel_rfl) (by kernel_rfl) (fun _ _ _ h => h) (Or.inr ⟨by rfl, rfl⟩) HH.out ?_
              change wpAnyH _ _ _ _ _ _ _ (Act.put _ (some 195) _) _
              simp only [Act.put, List.setIfInBounds_toArray, List.set_cons_zero, List.set_cons_succ]
              refine wpAnyH_take (i := 17) (v := undef) rfl (by kernel_rfl) (by kernel_rfl) (by kernel_rfl) (fun _ _ _ h => h) (Or.inr ⟨by rfl, rfl⟩) HH.out ?_
              change wpAnyH _ _ _ _ _ _ _ (Act.put _ (some 196) _) _
              simp only [Act.put, List.setIfInBounds_toArray, List.set_cons_zero, List.set_cons_succ]
              refine wpAnyH_take (i := 18) (v := undef) rfl (by kernel_rfl) (by kernel_rfl) (by kernel_rfl) (fun _ _ _ h => h) (Or.inr ⟨by rfl, rfl⟩) HH.out ?_
              change wpAnyH _ _ _ _ _ _ _ (Act.put _ (some 197) _) _
              simp only [Act.put, List.setIfInBounds_toArray, List.set_cons_zero, List.set_cons_succ]
              refine wpAnyH_take (i := 19) (v := undef) rfl (by kernel_rfl) (by kernel_rfl) (by kernel_rfl) (fun _ _ _ h => h) (Or.inr ⟨by rfl, rfl⟩) HH.out ?_
              change wpAnyH _ _ _ _ _ _ _ (Act.put _ (some 198) _) _
              simp only [Act.put, List.setIfInBounds_toArray, List.set_cons_zero, List.set_cons_succ]
              refine wpAnyH_take (i := 20) (v := ?_) rfl (by kernel_rfl) (by kernel_rfl) (by kernel_rfl) (fun _ _ _ h => h) (Or.inl ⟨by rfl, ?_⟩) HH.out ?_
              rotate_left
              · intro w hSw; go_simp; try with_reducible rfl
              change wpAnyH _ _ _ _ _ _ _ (Act.put _ (some 199) _) _
              simp only [Act.put, List.setIfInBounds_toArray, List.set_cons_zero, List.set_cons_succ]
              refine wpAnyH_done (by kernel_rfl) ?_ _
              have hE32 : Ext WR _ := hEx.trans (hW0.trans HH.out)
              clear HH hW0
              go_wp2
              go_meet
              case rel => exact ⟨m, rfl, hmp, hm, hall, (fun hk => absurd hk hnn : ∀ (hk : fr + m < S.length), S[fr + m].r ≠ y.r), hE32⟩
        case rest =>
        obtain ⟨W8, e9⟩ : ∃ X, X = wc := ⟨_, rfl⟩
        subst e9
        obtain ⟨m, rfl, hm0, hm, hall, hnx, hE8⟩ := hcut
        have hm6 : m ≤ 1000000 := by omega
        go_upto_region 36 with ((with_reducible (refine Veil.out ?_; apply wl_makeR under112x el118x (n := m))); (case hl => rfl); (case hc => rfl); (case hn => exact hm6); rintro BL W9 e9 bL gL)
        try simp only [Act.put]
        have hE89 : Ext WR W9 := hE8.trans e9
        have hLW : ¬ BL = BW := fun q => by have := bWr.lt; have := hE8.size; omega
        have hLl : WR.heap.size ≤ BL := Nat.le_trans hE8.size gL
        have hWR7 : W7.heap.size ≤ WR.heap.size := hMr.size
        have hLw : w.heap.size ≤ BL := Nat.le_trans hE7w.size (Nat.le_trans hWR7 hLl)
        have hEwR : Ext w WR := Ext.trans_mod hE7w hMr (fun q hq => by have hq2 : q = BW := hq; rw [hq2]; exact gWw)
        go_loopw [206] (fun jv wx => ∃ (j : Nat) (cL : Nat → Value), jv = .int .i64 (j : Nat) ∧ j ≤ m ∧ Blk wx BL (m * 64) 127 cL ∧ Hid (∀ q, q < j → ISlC cL (q * 64) ((eS ls (S.getD (fr + q) ⟨0, 0, 0⟩).k).key, (eS ls (S.getD (fr + q) ⟨0, 0, 0⟩).k).val)) ∧ Mod (fun x => x = BL) W9 wx) (fun jv _ => m - (intOf jv).toNat)
        case atStart => exact ⟨0, _, rfl, Nat.zero_le _, bL, (fun q hq => absurd hq (Nat.not_lt_zero _) : ∀ q, q < 0 → _), Mod.refl _ _⟩
        case round =>
          obtain ⟨j, cL, rfl, hj, bLr, hcL, hML⟩ := hrel
          rcases Nat.lt_or_ge j m with hjl | hjg
          · have zj : (j : Int) < m := by omega
            obtain ⟨fj, hfj⟩ : ∃ z, Hid (fr + j = z) := ⟨_, rfl⟩
            have hfj2 := hfj.out
            have jfj : IntKind.i64.wrap ((fr : Int) + (j : Int)) = (fj : Int) := by rw [IntKind.wrap_i64]; omega
            have zfj : (fj : Int) < n2 := by omega
            have hfjS : fj < S.length := by rw [hn2.out]; omega
            have hkj := (p6 fj hfjS).1.at_
            obtain ⟨hjn, _, _⟩ := hSm fj hfjS
            have hgd := gd_get hfjS
            obtain ⟨y3, hy3⟩ : ∃ z, Hid (S[fj] = z) := ⟨S[fj], rfl⟩
            rw [hy3.out] at hkj hjn hgd
            rcases hSr with ⟨q, _⟩ | ⟨bS, cS, dS, q1, q2, q3, q4, q5, q6⟩
            · rw [q] at hjn; exact absurd hjn (Nat.not_lt_zero _)
            rw [hnS.out] at q1 q2
            injection q1 with q1a q1b q1c
            subst q1a
            subst q1c
            clear q1b
            have hjr := q6 y3.k hjn
            have hxe := eS_get hjn
            obtain ⟨x, hx⟩ : ∃ z, Hid (ls[y3.k] = z) := ⟨ls[y3.k], rfl⟩
            rw [hx.out] at hjr hxe
            have hjnn : y3.k < nS := by rw [← hnS.out]; exact hjn
            have zk : (y3.k : Int) < nS := by omega
            have hjk := hjr.key
            have hjv := hjr.val
            have hxk := hjr.kLt
            have hxv := hjr.vLt
            have hbSl := q4.lt
            have hSBL : ¬ bS = BL := fun q => by omega
            have hEL : Ext w wr := Ext.trans_mod (hEwR.trans hE89) hML (fun q hq => by have hq2 : q = BL := hq; rw [hq2]; exact hLw)
            have hQBL : ¬ bQ = BL := fun q => by have := bQr.lt; omega
            have bQL : Blk wr bQ (cap3 * 6) 179 dQ := (bQr.ext hE89).mod hML hQBL
            have bSL0 : Blk wr bS (scap * 14) 185 dS := q4.ext hEL
            obtain ⟨j9, hj9⟩ : ∃ z : Nat, Hid ((j + 1 : Nat) = z) := ⟨_, rfl⟩
            have jj1 : IntKind.i64.wrap ((j : Int) + 1) = (j9 : Int) := by rw [IntKind.wrap_i64, ← hj9.out]; omega
            have hcj : j * 64 + 64 ≤ m * 64 := by omega
            have hcq : fj * 6 + 6 ≤ cap3 * 6 := by omega
            have hcs : y3.k * 14 + 14 ≤ scap * 14 := by omega
            replace hgd := (show Hid _ from hgd)
            replace hxe := (show Hid _ from hxe)
            clear hjr q6 hfj2
            go_upto_region 38 with (fail)
            refine w_ext ?_
            rintro W0 hW0
            refine wp_region_held_drew (S := fun w' => Ext W0 w') (by kernel_rfl) (Ext.refl _).drew (fun hHeld => ?_)
            have HH : Hid (Ext W0 _) := hHeld
            clear hHeld
            refine wpAnyH_take (i := 0) (v := ?_) rfl (by kernel_rfl) (by kernel_rfl) (by kernel_rfl) (fun _ _ _ h => h) (Or.inl ⟨by rfl, ?_⟩) HH.out ?_
            rotate_left
            · intro w hSw; go_simp; try with_reducible rfl
            change wpAnyH _ _ _ _ _ _ _ (Act.put _ (some 209) _) _
            simp only [Act.put, List.setIfInBounds_toArray, List.set_cons_zero, List.set_cons_succ]
            refine wpAnyH_take (i := 1) (v := ?_) rfl (by kernel_rfl) (by kernel_rfl) (by kernel_rfl) (fun _ _ _ h => h) (Or.inl ⟨by rfl, ?_⟩) HH.out ?_
            rotate_left
            · intro w hSw; go_simp; try with_reducible rfl
            change wpAnyH _ _ _ _ _ _ _ (Act.put _ (some 210) _) _
            simp only [Act.put, List.setIfInBounds_toArray, List.set_cons_zero, List.set_cons_succ]
            refine wpAnyH_take (i := 2) (v := ?_) rfl (by kernel_rfl) (by kernel_rfl) (by kernel_rfl) (fun _ _ _ h => h) (Or.inl ⟨by rfl, ?_⟩) HH.out ?_
            rotate_left
            · intro w hSw; go_simp; try with_reducible rfl
            change wpAnyH _ _ _ _ _ _ _ (Act.put _ (some 211) _) _
            simp only [Act.put, List.setIfInBounds_toArray, List.set_cons_zero, List.set_cons_succ]
            refine wpAnyH_take (i := 3) rfl (by kernel_rfl) (by kernel_rfl) (by kernel_rfl) (fun _ _ _ h => h) (yieldsIf_load1 (by rfl) _ _ rfl _ _ rfl oneX78 _ (fun w hSw => K36 _ (hEL.trans (hW0.trans hSw)))) HH.out ?_
            change wpAnyH _ _ _ _ _ _ _ (Act.put _ (some 212) _) _
            simp only [Act.put, List.setIfInBounds_toArray, List.set_cons_zero, List.set_cons_succ]
            refine wpAnyH_take (i := 4) (v := ?_) rfl (by kernel_rfl) (by kernel_rfl) (by kernel_rfl) (fun _ _ _ h => h) (Or.inl ⟨by rfl, ?_⟩) HH.out ?_
            rotate_left
            · intro w hSw; go_simp; try with_reducible rfl
            change wpAnyH _ _ _ _ _ _ _ (Act.put _ (some 213) _) _
            simp only [Act.put, List.setIfInBounds_toArray, List.set_cons_zero, List.set_cons_succ]
            refine wpAnyH_take (i := 5) (v := ?_) rfl (by kernel_rfl) (by kernel_rfl) (by kernel_rfl) (fun _ _ _ h => h) (Or.inl ⟨by rfl, ?_⟩) HH.out ?_
            rotate_left
            · intro w hSw; go_simp; try with_reducible rfl
            change wpAnyH _ _ _ _ _ _ _ (Act.put _ (some 214) _) _
            simp only [Act.put, List.setIfInBounds_toArray, List.set_cons_zero, List.set_cons_succ]
            refine wpAnyH_take (i := 6) (v := ?_) rfl (by kernel_rfl) (by kernel_rfl) (by kernel_rfl) (fun _ _ _ h => h) (Or.inl ⟨by rfl, ?_⟩) HH.out ?_
            rotate_left
            · intro w hSw; go_simp; try with_reducible rfl
            change wpAnyH _ _ _ _ _ _ _ (Act.put _ (some 215) _) _
            simp only [Act.put, List.setIfInBounds_toArray, List.set_cons_zero, List.set_cons_succ]
            refine wpAnyH_take (i := 7) (v := ?_) rfl (by kernel_rfl) (by kernel_rfl) (by kernel_rfl) (fun _ _ _ h => h) (Or.inl ⟨by rfl, ?_⟩) HH.out ?_
            rotate_left
            · intro w hSw; go_simp; try with_reducible rfl
            change wpAnyH _ _ _ _ _ _ _ (Act.put _ (some 216) _) _
            simp only [Act.put, List.setIfInBounds_toArray, List.set_cons_zero, List.set_cons_succ]
            refine wpAnyH_take (i := 8) (v := ?_) rfl (by kernel_rfl) (by kernel_rfl) (by kernel_rfl) (fun _ _ _ h => h) (Or.inl ⟨by rfl, ?_⟩) HH.out ?_
            rotate_left
            · intro w hSw; go_simp; try with_reducible rfl
            change wpAnyH _ _ _ _ _ _ _ (Act.put _ (some 217) _) _
            simp only [Act.put, List.setIfInBounds_toArray, List.set_cons_zero, List.set_cons_succ]
            refine wpAnyH_take (i := 9) (v := ?_) rfl (by kernel_rfl) (by kernel_rfl) (by kernel_rfl) (fun _ _ _ h => h) (Or.inl ⟨by rfl, ?_⟩) HH.out ?_
            rotate_left
            · intro w hSw; go_simp; try with_reducible rfl
            change wpAnyH _ _ _ _ _ _ _ (Act.put _ (some 218) _) _
            simp only [Act.put, List.setIfInBounds_toArray, List.set_cons_zero, List.set_cons_succ]
            refine wpAnyH_take (i := 10) rfl (by kernel_rfl) (by kernel_rfl) (by kernel_rfl) (fun _ _ _ h => h) (yieldsIf_load1 (by rfl) _ _ rfl _ _ rfl oneX21 _ (fun w hSw => by rw [(bQL.ext (hW0.trans hSw)).cell (by omega), hkj])) HH.out ?_
            change wpAnyH _ _ _ _ _ _ _ (Act.put _ (some 219) _) _
            simp only [Act.put, List.setIfInBounds_toArray, List.set_cons_zero, List.set_cons_succ]
            refine wpAnyH_take (i := 11) (v := ?_) rfl (by kernel_rfl) (by kernel_rfl) (by kernel_rfl) (fun _ _ _ h => h) (Or.inl ⟨by rfl, ?_⟩) HH.out ?_
            rotate_left
            · intro w hSw; go_simp; try with_reducible rfl
            change wpAnyH _ _ _ _ _ _ _ (Act.put _ (some 220) _) _
            simp only [Act.put, List.setIfInBounds_toArray, List.set_cons_zero, List.set_cons_succ]
            refine wpAnyH_take (i := 12) (v := ?_) rfl (by kernel_rfl) (by kernel_rfl) (by kernel_rfl) (fun _ _ _ h => h) (Or.inl ⟨by rfl, ?_⟩) HH.out ?_
            rotate_left
            · intro w hSw; go_simp; try with_reducible rfl
            change wpAnyH _ _ _ _ _ _ _ (Act.put _ (some 17) _) _
            simp only [Act.put, List.setIfInBounds_toArray, List.set_cons_zero, List.set_cons_succ]
            refine wpAnyH_done (by kernel_rfl) ?_ _
            have hE38 : Ext wr _ := hW0.trans HH.out
            clear HH
            refine w_ext ?_
            rintro W38 hW38
            have hE38' : Ext wr W38 := hE38.trans hW38
            clear hE38 hW38 hW0
            have bSL := bSL0.ext hE38'
            have bL38 := bLr.ext hE38'
            go_upto_region 39 with (fail)
            refine w_ext ?_
            rintro W0 hW0
            refine wp_region_held_drew (S := fun w' => Mod (fun x => x = BL) W0 w') (by kernel_rfl) (Mod.refl _ _).drew (fun hHeld => ?_)
            have HH : Hid (Mod (fun x => x = BL) W0 _) := hHeld
            clear hHeld
            refine wpAnyH_take (i := 0) (v := ?_) rfl (by kernel_rfl) (by kernel_rfl) (by kernel_rfl) (fun _ _ _ h => h) (Or.inl ⟨by rfl, ?_⟩) HH.out ?_
            rotate_left
            · intro w hSw; go_simp; try with_reducible rfl
            change wpAnyH _ _ _ _ _ _ _ (Act.put _ (some 221) _) _
            simp only [Act.put, List.setIfInBounds_toArray, List.set_cons_zero, List.set_cons_succ]
            refine wpAnyH_take (i := 1) (v := ?_) rfl (by kernel_rfl) (by kernel_rfl) (by kernel_rfl) (fun _ _ _ h => h) (Or.inl ⟨by rfl, ?_⟩) HH.out ?_
            rotate_left
            · intro w hSw; go_simp; try with_reducible rfl
            change wpAnyH _ _ _ _ _ _ _ (Act.put _ (some 222) _) _
            simp only [Act.put, List.setIfInBounds_toArray, List.set_cons_zero, List.set_cons_succ]
            refine wpAnyH_take (i := 2) (v := ?_) rfl (by kernel_rfl) (by kernel_rfl) (by kernel_rfl) (fun _ _ _ h => h) (Or.inl ⟨by rfl, ?_⟩) HH.out ?_
            rotate_left
            · intro w hSw; go_simp; try with_reducible rfl
            change wpAnyH _ _ _ _ _ _ _ (Act.put _ (some 223) _) _
            simp only [Act.put, List.setIfInBounds_toArray, List.set_cons_zero, List.set_cons_succ]
            refine wpAnyH_take (i := 3) (v := ?_) rfl (by kernel_rfl) (by kernel_rfl) (by kernel_rfl) (fun _ _ _ h => h) (Or.inl ⟨by rfl, ?_⟩) HH.out ?_
            rotate_left
            · intro w hSw; go_simp; try with_reducible rfl
            change wpAnyH _ _ _ _ _ _ _ (Act.put _ (some 224) _) _
            simp only [Act.put, List.setIfInBounds_toArray, List.set_cons_zero, List.set_cons_succ]
            refine wpAnyH_take (i := 4) (v := ?_) rfl (by kernel_rfl) (by kernel_rfl) (by kernel_rfl) (fun _ _ _ h => h) (Or.inl ⟨by rfl, ?_⟩) HH.out ?_
            rotate_left
            · intro w hSw; go_simp; try with_reducible rfl
            change wpAnyH _ _ _ _ _ _ _ (Act.put _ (some 225) _) _
            simp only [Act.put, List.setIfInBounds_toArray, List.set_cons_zero, List.set_cons_succ]
            refine wpAnyH_take (i := 5) rfl (by kernel_rfl) (by kernel_rfl) (by kernel_rfl) (fun _ _ _ h => h) (yields_W (by rfl) rfl rfl (fun w hSw => (bSL.ext hW0).mod hSw hSBL) hjk (by omega)) HH.out ?_
            change wpAnyH _ _ _ _ _ _ _ (Act.put _ (some 226) _) _
            simp only [Act.put, List.setIfInBounds_toArray, List.set_cons_zero, List.set_cons_succ]
            refine wpAnyH_take (i := 7) (v := ?_) rfl (by kernel_rfl) (by kernel_rfl) (by kernel_rfl) (fun _ _ _ h => h) (Or.inl ⟨by rfl, ?_⟩) HH.out ?_
            rotate_left
            · intro w hSw; go_simp; try with_reducible rfl
            change wpAnyH _ _ _ _ _ _ _ (Act.put _ (some 228) _) _
            simp only [Act.put, List.setIfInBounds_toArray, List.set_cons_zero, List.set_cons_succ]
            refine wpAnyH_take (i := 8) (v := ?_) rfl (by kernel_rfl) (by kernel_rfl) (by kernel_rfl) (fun _ _ _ h => h) (Or.inl ⟨by rfl, ?_⟩) HH.out ?_
            rotate_left
            · intro w hSw; go_simp; try with_reducible rfl
            change wpAnyH _ _ _ _ _ _ _ (Act.put _ (some 229) _) _
            simp only [Act.put, List.setIfInBounds_toArray, List.set_cons_zero, List.set_cons_succ]
            refine wpAnyH_take (i := 9) (v := ?_) rfl (by kernel_rfl) (by kernel_rfl) (by kernel_rfl) (fun _ _ _ h => h) (Or.inl ⟨by rfl, ?_⟩) HH.out ?_
            rotate_left
            · intro w hSw; go_simp; try with_reducible rfl
            change wpAnyH _ _ _ _ _ _ _ (Act.put _ (some 230) _) _
            simp only [Act.put, List.setIfInBounds_toArray, List.set_cons_zero, List.set_cons_succ]
            refine wpAnyH_take (i := 10) rfl (by kernel_rfl) (by kernel_rfl) (by kernel_rfl) (fun _ _ _ h => h) (yields_W (by rfl) rfl rfl (fun w hSw => (bSL.ext hW0).mod hSw hSBL) hjv (by omega)) HH.out ?_
            change wpAnyH _ _ _ _ _ _ _ (Act.put _ (some 231) _) _
            simp only [Act.put, List.setIfInBounds_toArray, List.set_cons_zero, List.set_cons_succ]
            refine wpAnyH_ready (rs := [6]) (by kernel_rfl) (by simp) ?_
            refine AllReadyH.cons rfl (fun K hK => ?_) AllReadyH.nil
            go_simp
            go_at_call 85; refine (uBE _ hxk).mono ?_; rintro e wa ⟨rfl, he⟩
            refine hK.out _ _ ?_ (fun hHeld => ?_)
            · first | exact HH.out.trans hmY | exact HH.out.trans_ext he | exact HH.out
            clear hK K HH
            have HH : Hid (Mod (fun x => x = BL) W0 _) := hHeld
            clear hHeld
            refine wpAnyH_ready (rs := [11]) (by kernel_rfl) (by simp) ?_
            refine AllReadyH.cons rfl (fun K hK => ?_) AllReadyH.nil
            go_simp
            go_at_call 85; refine (uBE _ hxv).mono ?_; rintro e wb ⟨rfl, he⟩
            refine hK.out _ _ ?_ (fun hHeld => ?_)
            · first | exact HH.out.trans hmY | exact HH.out.trans_ext he | exact HH.out
            clear hK K HH
            have HH : Hid (Mod (fun x => x = BL) W0 _) := hHeld
            clear hHeld
            refine wpAnyH_take (i := 12) rfl (by kernel_rfl) (by kernel_rfl) (by kernel_rfl) (fun _ _ _ h => h) (yields_build (ps := [(0, .agg (bw x.key)), (1, .agg (bw x.val))]) (by rfl) rfl (b118x hxk hxv) (by simp [Act.eval])) HH.out ?_
            change wpAnyH _ _ _ _ _ _ _ (Act.put _ (some 233) _) _
            simp only [Act.put, List.setIfInBounds_toArray, List.set_cons_zero, List.set_cons_succ]
            refine wpAnyH_take (i := 13) (v := ?_) rfl (by kernel_rfl) (by kernel_rfl) (by kernel_rfl) (fun _ _ _ h => h) (Or.inl ⟨by rfl, ?_⟩) HH.out ?_
            rotate_left
            · intro w hSw; go_simp; try with_reducible rfl
            change wpAnyH _ _ _ _ _ _ _ (Act.put _ (some 234) _) _
            simp only [Act.put, List.setIfInBounds_toArray, List.set_cons_zero, List.set_cons_succ]
            refine wpAnyH_ready (rs := [14]) (by kernel_rfl) (by simp) ?_
            refine AllReadyH.cons rfl (fun K hK => ?_) AllReadyH.nil
            refine step_any rfl (op_storeRow rfl rt118x rfl rfl (isR_size hxk hxv) isR_one (bL38.ext (by (repeat (first | with_reducible exact Ext.refl _ | with_reducible assumption | refine Ext.trans ?_ (by with_reducible assumption) | refine Ext.alloc ?_ _ _ | refine Ext.drew ?_ | refine Ext.drewN ?_ _)))) (by omega) ?_)
            rintro W39 b39 m39
            refine hK.out _ _ ?_ (fun hHeld => ?_)
            · exact HH.out.trans m39
            clear hK K HH
            have HH : Hid (Mod (fun x => x = BL) W0 _) := hHeld
            clear hHeld
            change wpAnyH _ _ _ _ _ _ _ (Act.put _ none _) _
            simp only [Act.put, List.setIfInBounds_toArray, List.set_cons_zero, List.set_cons_succ]
            refine wpAnyH_done (by kernel_rfl) ?_ _
            have M39 : Mod (fun x => x = BL) W9 W39 := (hML.trans_ext (hE38'.trans hW0)).trans HH.out
            clear HH hW0
            go_wp2
            go_roundw
            case rel =>
              have h9 := hj9.out
              have h8 := hfj.out
              refine ⟨j9, _, rfl, by omega, b39, ?_, M39⟩
              show ∀ q, q < j9 → _
              intro q hq
              by_cases e : q = j
              · subst e
                rw [h8, hgd.out, hxe.out]
                exact isR_row hxk hxv _ _ (fun i u hu => by
                  have hi := (Array.getElem?_eq_some_iff.1 hu).1
                  rw [layv_in _ _ _ hi]
                  exact cf_get hu)
              · have k := hcL.out q (by omega)
                refine ISlC.cellsV (fun i hi => layv_out _ _ _ ?_) k
                rw [isR_size hxk hxv]; omega
            case measure => exact meas_ltE hj9.out hjl
          · have zj : ¬ (j : Int) < m := by omega
            obtain rfl : j = m := by omega
            obtain ⟨p, hp⟩ : ∃ z, Hid (y.r - 1 = z) := ⟨_, rfl⟩
            have hp2 := hp.out
            have jp : IntKind.i32.wrap ((y.r : Int) - 1) = (p : Int) := by rw [IntKind.wrap_i32]; omega
            have zp : (p : Int) < n1 := by omega
            obtain ⟨fm, hfm⟩ : ∃ z, Hid (fr + j = z) := ⟨_, rfl⟩
            have jf : IntKind.i64.wrap ((fr : Int) + (j : Int)) = (fm : Int) := by rw [IntKind.wrap_i64, ← hfm.out]; omega
            have hpn : p < n1 := by omega
            have hpc : p * 55 + 55 ≤ n1 * 55 := by omega
            have hpy : p + 1 = y.r := by omega
            have hQBL : ¬ bQ = BL := fun q => by have := bQr.lt; omega
            have bQL : Blk wr bQ (cap3 * 6) 179 dQ := (bQr.ext hE89).mod hML hQBL
            have K41 : wr.cell? ⟨bQ, fr * 6, none⟩ = some (.int .i32 (y.r : Nat)) := by rw [bQL.cell (by omega), hkf]
            have bWL : Blk wr BW (n1 * 55) 58 cWr := (bWr.ext hE89).mod hML (fun q => hLW q.symm)
            replace hpy := (show Hid _ from hpy)
            clear hp2
            go_wp2_with (first | ((with_reducible (refine Veil.out ?_; apply wl_loadC oneX21)); (case hw => rfl); (case hx => rfl); (case hc => exact K41)) | ((with_reducible (refine Veil.out ?_; apply wl_storeC oneX112)); (case hx => rfl); (case hy => rfl); (case h1 => rfl); (case hB => exact bWL); (case hi => omega); rintro W41 b41 m41))
            replace b41 : Blk W41 BW (n1 * 55) 58 (updv cWr (p * 55 + 54) (.slice (some ⟨BL, 0, none⟩) j j)) := b41
            go_roundw
            case rel =>
              have h8 := hfm.out
              have hpy2 := hpy.out
              have hn9 := hn2.out
              have M41 : Mod (fun b => b = BW) W7 W41 := (Mod.trans' (hMr.trans_ext hE89) hML (fun i hi => Or.inr (by have hi2 : i = BL := hi; rw [hi2]; exact Nat.le_trans hWR7 hLl))).trans m41
              have hbd2 : ∀ (i k : Nat) (hi : i < S.length) (hk : k < S.length), i < fm → fm ≤ k → S[i].r ≠ S[k].r := fun i k hi hk h1 h2 q => by
                rcases Nat.lt_or_ge i fr with a | a
                · exact hbd.out i k hi hk a (by omega) q
                · have e1 : S[i].r = y.r := by
                    have := hall.out (i - fr) (by omega) (by omega)
                    have e : S[fr + (i - fr)]'(by omega) = S[i] := by congr 1; omega
                    rw [e] at this
                    exact this
                  have hfmS : fm < S.length := by omega
                  have e2 : S[fm].r ≠ y.r := by
                    have := hnx.out (by omega)
                    have e : S[fr + j]'(by omega) = S[fm] := by congr 1
                    rw [e] at this
                    exact this
                  have e3 := hSr2 i fm hi hfmS (by omega)
                  have e4 := hSr2 fm k hfmS hk (by omega)
                  omega
              have hG1 : ∀ s ∈ (S.drop fr).take j, s.r = y.r := fun s hs => by
                obtain ⟨k, hk, rfl⟩ := List.mem_iff_getElem.1 hs
                rw [List.length_take, List.length_drop] at hk
                rw [List.getElem_take, List.getElem_drop]
                exact hall.out k (by omega) (by omega)
              have hG0 : ∀ s ∈ S.take fr, s.r ≠ y.r := fun s hs => by
                obtain ⟨k, hk, rfl⟩ := List.mem_iff_getElem.1 hs
                rw [List.length_take] at hk
                rw [List.getElem_take]
                have := hbd.out k fr (by omega) hfS (by omega) (Nat.le_refl _)
                rwa [hy.out] at this
              have htk : S.take fm = S.take fr ++ (S.drop fr).take j := by rw [← h8, List.take_add]
              have hkeep : Mod (fun b => b = BW ∨ b = BL) WR W41 := (hE89.mod _).trans ((hML.sub (fun _ q => Or.inr q)).trans (m41.sub (fun _ q => Or.inl q)))
              have hnOL : ¬ O2 BL := fun q => by have := hO2s7 BL q; omega
              have hO2k : ∀ b, b < WR.heap.size → ¬ O2 b → ¬ (b = BW ∨ b = BL) := fun b hb hb2 q => by
                rcases q with q | q
                · exact hO2W b hb2 q
                · omega
              refine ⟨fm, _, rfl, by omega, hbd2, b41, ?_, M41⟩
              show ∀ q, q < n1 → _
              intro q hq
              have k0 := hcWr.out q hq
              have k1 : IAcC O2 W41 cWr (q * 55) (acE la ls A (S.take fr) q).outV := k0.keepL hkeep hO2k
              by_cases e : q = p
              · subst e
                refine k1.giveS (y := (acE la ls A (S.take fm) q).outV) (v := .slice (some ⟨BL, 0, none⟩) j j) (fun i hi => updv_ne _ _ (by omega)) (updv_same _ _ _) ?_ rfl rfl rfl rfl
                have esl : (acE la ls A (S.take fm) q).outV.slots = ((S.drop fr).take j).map fun s => ((eS ls s.k).key, (eS ls s.k).val) := by
                  show slE ls (S.take fm) (q + 1) = _
                  rw [htk, slE_app, hpy2, slE_none hG0, slE_all hG1, List.nil_append]
                have ell : (((S.drop fr).take j).map fun s => ((eS ls s.k).key, (eS ls s.k).val)).length = j := by
                  rw [List.length_map, List.length_take, List.length_drop]; omega
                rw [esl]
                refine Or.inr ⟨BL, 0, j, cL, by rw [ell], by rw [ell]; exact Nat.le_refl _, by omega, hnOL, Nat.lt_of_lt_of_le bLr.lt m41.size, fun i hi => ?_, fun i hi => ?_⟩
                · rw [ell] at hi
                  rw [Nat.zero_add]
                  exact (bLr.mod m41 hLW).cell hi
                · have hi2 : i < j := by rw [ell] at hi; exact hi
                  have := hcL.out i hi2
                  rw [gd_get (show fr + i < S.length by omega)] at this
                  rw [List.getElem_map, List.getElem_take, List.getElem_drop]
                  exact this
              · have esl : slE ls (S.take fm) (q + 1) = slE ls (S.take fr) (q + 1) := by
                  rw [htk, slE_app, slE_none (S := (S.drop fr).take j) (fun s hs => by rw [hG1 s hs]; omega), List.append_nil]
                rw [acE_out esl]
                exact k1.cellsS (fun i hi => updv_ne _ _ (by omega))
            case measure =>
              have h8 := hfm.out
              show n2 - (intOf (.int .i64 (fm : Nat))).toNat < n2 - (intOf (.int .i64 (fr : Nat))).toNat
              simp only [intOf, Int.toNat_natCast]
              omega
      · have z1 : ¬ (fr : Int) < n2 := by omega
        obtain rfl : fr = n2 := by omega
        rw [← hn2.out, List.take_length] at hcWr
        go_wp2
        go_meet
        case rel => exact ⟨cWr, bWr, hcWr, hMr⟩
  case rest =>
  obtain ⟨cW9, bW9, hcW9, hM9⟩ := hcut
  have hEf : Ext w wc := Ext.trans_mod hE7w hM9 (fun q hq => by have hq2 : q = BW := hq; rw [hq2]; exact gWw)
  go_wp2
  refine post_23 (v := .slice (some ⟨BW, 0, none⟩) n1 n1) rfl rfl ?_
  refine ⟨_, A, S, rfl, by rw [hnA.out]; exact hAp, hAs, by rw [hAl, hnS.out]; exact hSp, hSs, ?_, hEf⟩
  have hl : ((exE la ls A S).map YA.outV).length = n1 := by unfold exE; simp [hAl]
  refine Or.inr ⟨BW, 0, n1, cW9, by rw [hl], by rw [hl]; exact Nat.le_refl _, by omega, fun q => by have := hO BW q; omega, bW9.lt, fun i hi => ?_, fun i hi => ?_⟩
  · rw [hl] at hi
    rw [Nat.zero_add]
    exact bW9.cell hi
  · have hi2 : i < n1 := by rw [hl] at hi; exact hi
    have e : ((exE la ls A S).map YA.outV)[i] = (acE la ls A S i).outV := by unfold exE; simp
    rw [e]
    exact (hcW9.out i hi2).reoS (fun b hb q => by rw [hO2.out]; exact Or.inl q)
end
end Go.Proofs.YgvahwGreat
