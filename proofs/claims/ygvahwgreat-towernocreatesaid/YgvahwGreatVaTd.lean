import Derived.Test.YgvahwGreatVaTc
import Derived.Test.YgvahwGreatLgV0
import Derived.Test.YgvahwGreatRowsO
import Derived.Test.YgvahwGreatTd
namespace Go.Proofs.YgvahwGreat
open Go.RowKit
set_option linter.unusedSimpArgs false
/-- A log is put at the end. -/
theorem log_end {own : Nat → Nat} {w w1 W : World} {g b b' : Nat} {c c2 c' : Nat → Value} {V : EV} {v' : Value} {l : ALog} {z : Array Value} (h : VRep own w g c V) (hroom : V.logs.length < 2800)
    (hE : Ext w w1) (hTag : ∀ cap, c 27016 = .slice (some ⟨b, 0, none⟩) V.logs.length cap → own b = 4) (hRows : ∀ (i : Nat) (h : i < V.logs.length), LogC (Mu own) w c2 (i * 22) V.logs[i])
    (hG : Grown w1 141 22 (c 27016) V.logs.length b c2 z.toList v' W b' c')
    (hnew : ∀ (own' : Nat → Nat) (w' : World) (c3 : Nat → Value) (o : Nat), Keep own own' g 4 w w' → (∀ j u, z.toList[j]? = some u → c3 (o + j) = u) → LogC (Mu own') w' c3 o l) :
    ∃ own' c'', VRep own' (W.setCell ⟨g, 27016, none⟩ v') g c'' { V with logs := V.logs ++ [l] } ∧ VStep own w c own' (W.setCell ⟨g, 27016, none⟩ v') c'' := by
  have hB0 := h.blk.ext hE
  have hgb : b' ≠ g ∧ (b' < w.heap.size → own b' = 4) ∧ Blk W g 27024 105 c ∧ Mod (fun x => x = g ∨ own x = 4) w W := by
    rcases hG.how with ⟨q, ⟨cp, hc⟩, hm⟩ | ⟨q, hx⟩
    · have h1 := hTag cp hc
      have hne : b ≠ g := fun e2 => by have := h.tag; rw [← e2, h1] at this; omega
      refine ⟨by rw [q]; exact hne, fun _ => by rw [q]; exact h1, hB0.mod hm (fun e2 => hne e2.symm), (hE.mod _).trans' hm (fun i hi => Or.inl (Or.inr (by rw [hi]; exact h1)))⟩
    · have hs := hE.size
      have hg := h.blk.lt
      exact ⟨by rw [q]; omega, fun h1 => by rw [q] at h1; omega, hB0.ext hx, (hE.mod _).trans_ext hx⟩
  obtain ⟨hbg, hbt, hBW, hMW⟩ := hgb
  obtain ⟨own', hown⟩ : ∃ own' : Nat → Nat, own' = fun x => if x = b' then 4 else own x := ⟨_, rfl⟩
  have ho1 : own' b' = 4 := by rw [hown]; simp
  have ho2 : ∀ x, x ≠ b' → own' x = own x := fun x hx => by rw [hown]; simp [hx]
  have hkeep : ∀ x, x < w.heap.size → own' x = own x := fun x hx => by
    by_cases q : x = b'
    · subst q; rw [ho1, hbt hx]
    · exact ho2 x q
  have hMF : Mod (fun x => x = g ∨ own x = 4) w (W.setCell ⟨g, 27016, none⟩ v') := hMW.setCell (Or.inl (Or.inl rfl)) _
  have K : Keep own own' g 4 w (W.setCell ⟨g, 27016, none⟩ v') := ⟨hkeep, hMF, h.tag, by decide⟩
  have hBF := hBW.set 27016 v'
  have hcF : ∀ i, i ≠ 27016 → updv c 27016 v' i = c i := fun i h1 => updv_ne _ _ h1
  have hc0 : updv c 27016 v' 27016 = v' := updv_same _ _ _
  obtain ⟨cF, hcFe⟩ : ∃ cF, cF = updv c 27016 v' := ⟨_, rfl⟩
  rw [← hcFe] at hBF hcF hc0
  have hsF : W.heap.size = (W.setCell ⟨g, 27016, none⟩ v').heap.size := by simp [World.setCell]
  have hb'W : b' < W.heap.size := by
    rcases hG.arn with ⟨q, _⟩ | ⟨cp, _, _, _, q⟩
    · omega
    · exact q.lt
  refine ⟨own', cF, ?_, hkeep, fun i hi => hcF i (by omega), hMF.sub (fun i hi => ?_)⟩
  · refine ⟨hBF, by rw [ho2 g hbg.symm]; exact h.tag, fun x hx => ?_, ⟨h.wf.a1, h.wf.s1, h.wf.t1, h.wf.sA, h.wf.tA⟩, ⟨h.jok.fits, h.jok.marks, h.jok.fall⟩, h.nA, h.nS, h.nT, h.nJ, ?_, h.nM, ?_, ?_, ?_, ?_, ?_, ?_, ?_, ?_, ?_, ?_, ?_, h.rLt⟩
    · rw [← hsF] at hx
      rw [ho2 x (by omega)]
      exact h.fresh x (Nat.le_trans hMW.size hx)
    · show (V.logs ++ [l]).length ≤ 2800
      simp; omega
    · rw [hcF 2435 (by omega)]; exact K.row h.accts (fun _ _ _ k => K.acct (fun _ _ => rfl) k) (by decide) (by decide)
    · rw [hcF 2436 (by omega)]; exact K.row h.slots (fun _ _ _ k => k) (by decide) (by decide)
    · rw [hcF 27017 (by omega)]; exact K.row h.temps (fun _ _ _ k => k) (by decide) (by decide)
    · rw [hcF 10629 (by omega)]; exact K.row h.jrn (fun _ _ _ k => K.je (fun _ _ => rfl) k) (by decide) (by decide)
    · rw [hc0]
      have hp : GRow 141 22 (LogC (Mu own') (W.setCell ⟨g, 27016, none⟩ v')) (Ow own' 4) W v' (V.logs ++ [l]) :=
        GRow.push hG hRows (fun c c' o y hc hy => K.log hc hy) (fun hn => hnew own' _ _ _ K hn) ho1
      exact hp.mono (fun _ _ _ k => k) (fun _ _ k => k) (fun b n t c hb hT => hb.off (by unfold Ow at hT; intro q; rw [q, ho2 g hbg.symm, h.tag] at hT; omega))
    · obtain ⟨t2, q1, q2⟩ := h.tA
      exact ⟨t2, fun p hp => by rw [hcF _ (by omega)]; exact q1 p hp, q2⟩
    · obtain ⟨t2, q1, q2⟩ := h.tS
      exact ⟨t2, fun p hp => by rw [hcF _ (by omega)]; exact q1 p hp, q2⟩
    · rw [hcF 27018 (by omega)]
      rcases h.tT with q | ⟨t2, q1, q2⟩
      · exact Or.inl q
      · exact Or.inr ⟨t2, K.tab q1 (by decide), q2⟩
    · intro id hid
      have := h.nM
      have hid' : id < V.marks.length := hid
      rw [hcF _ (by omega)]; exact h.marks id hid
    · rw [hcF 27014 (by omega)]; exact h.nm
    · rw [hcF 27015 (by omega)]; exact h.ref
  · rcases hi with q | q
    · subst q; rw [h.tag]; exact ⟨by decide, by decide⟩
    · rw [q]; exact ⟨by decide, by decide⟩
theorem one44 : OneT 49 := oneT_of (by kernel_rfl) (by kernel_rfl)
theorem under29 : Hvah.prog.underlying 34 = some (.slice 33) := by kernel_rfl
theorem z132 : ∃ z, zeroOf Hvah.prog 141 = some z ∧ z.size = 22 := ⟨lgV 0 (.slice none 0 0) (.slice none 0 0), by kernel_rfl, by kernel_rfl⟩
theorem el28 : ∃ z, ElT 33 32 z := ⟨Array.replicate 32 (.int .u8 0), ⟨⟨Hvah.t33, .agg (Array.replicate 32 (.int .u8 0)), by kernel_rfl, by kernel_rfl, rfl, by kernel_rfl, by decide +kernel⟩, by simp, by decide⟩⟩
theorem WL.cells {w : World} {b off : Nat} {l : List Nat} (h : ∀ (i : Nat) (h : i < l.length), l[i] < P256 ∧ RowIn w b (off + i * 32) (bw l[i])) : ∃ cs : Nat → Value, (∀ j, j < l.length * 32 → w.cell? ⟨b, off + j, none⟩ = some (cs j) ∧ (cs j).oneCell' = true) ∧ ∀ (i k : Nat) (v : Value) (hi : i < l.length), (bw l[i])[k]? = some v → k < 32 ∧ cs (i * 32 + k) = v := by
  refine ⟨fun j => (w.cell? ⟨b, off + j, none⟩).getD undef, fun j hj => ?_, fun i k v hi hv => ?_⟩
  · have hi : j / 32 < l.length := by omega
    obtain ⟨h1, h2⟩ := h (j / 32) hi
    have hk : j % 32 < (bw l[j / 32]).size := by rw [bw_size h1]; omega
    have h3 := h2 (j % 32) _ (Array.getElem?_eq_getElem hk)
    rw [show off + j / 32 * 32 + j % 32 = off + j by omega] at h3
    simp only [h3, Option.getD_some]
    exact ⟨trivial, bw_one _ _ (Array.mem_toList_iff.2 (Array.getElem_mem hk))⟩
  · obtain ⟨h1, h2⟩ := h i hi
    have hk : k < (bw l[i]).size := (Array.getElem?_eq_some_iff.1 hv).1
    rw [bw_size h1] at hk
    have h3 := h2 k v hv
    rw [show off + i * 32 + k = off + (i * 32 + k) by omega] at h3
    simp only [h3, Option.getD_some]
    exact ⟨hk, trivial⟩
theorem WL.cases {O : Nat → Prop} {w : World} {v : Value} {l : List Nat} (h : WL O w v l) : (l = [] ∧ ∃ o cap, v = .slice o 0 cap) ∨ (l ≠ [] ∧ ∃ b off cap, v = .slice (some ⟨b, off, none⟩) l.length cap ∧ l.length ≤ cap ∧ cap ≤ 9223372036854775807 ∧ ¬ O b ∧ b < w.heap.size ∧ ∀ (i : Nat) (h : i < l.length), l[i] < P256 ∧ RowIn w b (off + i * 32) (bw l[i])) := by
  rcases h with ⟨h1, h2⟩ | h
  · exact Or.inl ⟨h1, none, 0, h2⟩
  · by_cases hl : l = []
    · obtain ⟨b, off, cap, h1, _⟩ := h
      subst hl
      exact Or.inl ⟨rfl, _, _, h1⟩
    · exact Or.inr ⟨hl, h⟩
theorem sz28 : (Hvah.prog.info? 33).map (·.size) = some 32 := by kernel_rfl
theorem rowLg {c : Nat → Value} {a : Nat} {t d : Value} (ha : a < 2 ^ 160) (h : AAt c 0 a) (h1 : c 20 = t) (h2 : c 21 = d) : rowOf c 0 22 = lgV a t d := by
  have hsz := av_size ha
  refine ext_cf (by rw [rowOf_size, lgV_size ha]) (fun i hi => ?_)
  rw [rowOf_size] at hi
  rw [cf_rowOf _ _ _ hi, Nat.zero_add, cf_append, hsz]
  by_cases h20 : i < 20
  · rw [if_pos h20]
    have := h i _ (get_cf (r := av a) (by omega))
    rwa [Nat.zero_add] at this
  · rw [if_neg h20]
    have : i = 20 ∨ i = 21 := by omega
    rcases this with rfl | rfl
    · rw [h1]; rfl
    · rw [h2]; rfl
theorem Blk.layRow {w : World} {b n : Nat} {t : TypeId} {c : Nat → Value} {r : Array Value} (h : Blk w b n t (layv c 0 r)) (hr : r.size = n) : RowIn w b 0 r := fun i v hv => by
  have hi := (Array.getElem?_eq_some_iff.1 hv).1
  rw [Nat.zero_add, h.cell (by omega)]
  have := layv_in c 0 r (j := i) hi
  rw [Nat.zero_add] at this
  rw [this, cf_get hv]
section
variable {own : Nat → Nat} {w : World} {g : Nat} {c : Nat → Value} {V : EV} {a k v i : Nat} {O : Nat → Prop}
set_option maxRecDepth 100000 in
set_option maxHeartbeats 6400000 in
theorem vCopiedLog (hO : ∀ b, O b → b < w.heap.size) (ha : a < 2 ^ 160) {tv dv : Value} {tl dl : List Nat} (ht : WL O w tv tl) (hd : NL O w dv dl) (hn4 : tl.length ≤ 4) : Calls Hvah.prog 216 #[.agg (lgV a tv dv)] w fun e w' => ∃ tv' dv', e = .returned (.agg (lgV a tv' dv')) ∧ WL O w' tv' tl ∧ NL O w' dv' dl ∧ Ext w w' := by
  obtain ⟨z2, hz2, hs2⟩ := z132
  have hsz := av_size ha
  have hc20 : cf (lgV a tv dv) 20 = tv := by rw [cf_append, if_neg (by omega), hsz]; rfl
  have hc21 : cf (lgV a tv dv) 21 = dv := by rw [cf_append, if_neg (by omega), hsz]; rfl
  go_enter Hvah.func216, Hvah.ntmps216
  go_upto_region 1 with (first | ((with_reducible (refine Veil.out ?_; apply wl_boxB)); (case hx => rfl); (case hn => exact lgV_size ha _ _); rintro B1 W1 e1 b1 g1) | ((with_reducible (refine Veil.out ?_; apply wl_allocB hz2)); (case hn => exact hs2); rintro B2 W2 e2 b2 g2))
  have g1w : w.heap.size ≤ B1 := g1
  have g2w : w.heap.size ≤ B2 := Nat.le_trans e1.size g2
  have hE2 : Ext w W2 := by (repeat (first | with_reducible exact Ext.refl _ | with_reducible assumption | refine Ext.trans ?_ (by with_reducible assumption) | refine Ext.alloc ?_ _ _ | refine Ext.drew ?_ | refine Ext.drewN ?_ _))
  have hne12 : ¬ B1 = B2 := fun q => by have := b1.lt; omega
  have hd2 := ((hd.widen g1w).widen g2w).ext hE2
  have HC := fun W (hW : Ext W2 W) => vCopied (Wd (Wd O B1) B2) dv dl W (fun x hx => by
    rcases hx with hx | hx
    · rcases hx with hx | hx
      · exact Nat.lt_of_lt_of_le (hO x hx) (hE2.trans hW).size
      · rw [hx]; exact Nat.lt_of_lt_of_le b1.lt (e2.trans hW).size
    · rw [hx]; exact Nat.lt_of_lt_of_le b2.lt hW.size) (hd2.ext hW)
  go_upto_region 2 with (first | ((with_reducible (refine Veil.out ?_; apply wl_load1 one32)); (case hx => rfl); (case hB => exact b1.ext (by (repeat (first | with_reducible exact Ext.refl _ | with_reducible assumption | refine Ext.trans ?_ (by with_reducible assumption) | refine Ext.alloc ?_ _ _ | refine Ext.drew ?_ | refine Ext.drewN ?_ _)))); (case ho => decide); rw [hc21]) | (go_at_call 86; refine (HC _ (by (repeat (first | with_reducible exact Ext.refl _ | with_reducible assumption | refine Ext.trans ?_ (by with_reducible assumption) | refine Ext.alloc ?_ _ _ | refine Ext.drew ?_ | refine Ext.drewN ?_ _)))).mono ?_; rintro e w3 ⟨dv', rfl, hdv', he3⟩) | ((with_reducible (refine Veil.out ?_; apply wl_storeC one32)); (case hx => rfl); (case hy => rfl); (case h1 => exact hdv'.one); (case hB => exact b1.ext (by (repeat (first | with_reducible exact Ext.refl _ | with_reducible assumption | refine Ext.trans ?_ (by with_reducible assumption) | refine Ext.alloc ?_ _ _ | refine Ext.drew ?_ | refine Ext.drewN ?_ _)))); (case hi => decide); rintro W4 b4 m4))
  have b4' : Blk W4 B1 22 141 (updv (cf (lgV a tv dv)) 21 dv') := b4
  have q20 : updv (cf (lgV a tv dv)) 21 dv' 20 = tv := by rw [updv_ne _ _ (by decide)]; exact hc20
  have q21 : updv (cf (lgV a tv dv)) 21 dv' 21 = dv' := updv_same _ _ _
  have qA : AAt (updv (cf (lgV a tv dv)) 21 dv') 0 a := fun j v hv => by
    have hj := (Array.getElem?_eq_some_iff.1 hv).1
    rw [updv_ne _ _ (by omega), Nat.zero_add]
    exact cf_get (by rw [Array.getElem?_append_left hj]; exact hv)
  generalize updv (cf (lgV a tv dv)) 21 dv' = d4 at *
  clear b4
  have hE4 : Ext w W4 := Ext.trans_mod (show Ext w w3 by (repeat (first | with_reducible exact Ext.refl _ | with_reducible assumption | refine Ext.trans ?_ (by with_reducible assumption) | refine Ext.alloc ?_ _ _ | refine Ext.drew ?_ | refine Ext.drewN ?_ _))) m4 (fun x hx => by have hx2 : x = B1 := hx; rw [hx2]; exact g1w)
  have hd4 := hdv'.keep m4 (fun b hb hq => hb (Or.inl (Or.inr hq)))
  have hdo := hdv'.one
  have b24 := (b2.ext he3).mod m4 (fun q => hne12 q.symm)
  clear hdv' m4 b1 b2 he3 hd2 HC
  rcases WL.cases ht with ⟨rfl, o0, cap0, rfl⟩ | ⟨hne0, tb, toff, tcap, rfl, h1, h2, h3, h4, h5⟩
  · go_wp2_with (first | ((with_reducible (refine Veil.out ?_; apply wl_load1 one29)); (case hx => rfl); (case hB => exact b4'.ext (by (repeat (first | with_reducible exact Ext.refl _ | with_reducible assumption | refine Ext.trans ?_ (by with_reducible assumption) | refine Ext.alloc ?_ _ _ | refine Ext.drew ?_ | refine Ext.drewN ?_ _)))); (case ho => decide); rw [q20]) | ((with_reducible (refine Veil.out ?_; apply wl_storeC one29 (v := .slice none 0 0))); (case hx => rfl); (case hy => rfl); (case h1 => rfl); (case hB => exact b4'.ext (by (repeat (first | with_reducible exact Ext.refl _ | with_reducible assumption | refine Ext.trans ?_ (by with_reducible assumption) | refine Ext.alloc ?_ _ _ | refine Ext.drew ?_ | refine Ext.drewN ?_ _)))); (case hi => decide); rintro W5 b5 m5) | ((with_reducible (refine Veil.out ?_; apply wl_loadRow rt132)); (case hx => rfl); (case hB => exact b5.ext (by (repeat (first | with_reducible exact Ext.refl _ | with_reducible assumption | refine Ext.trans ?_ (by with_reducible assumption) | refine Ext.alloc ?_ _ _ | refine Ext.drew ?_ | refine Ext.drewN ?_ _)))); (case hi => decide); rw [rowLg ha (qA.upd ha (by omega)) (updv_same _ _ _) ((updv_ne _ _ (by decide)).trans q21)]) | ((with_reducible (refine Veil.out ?_; apply wl_storeRow rt132)); (case hx => rfl); (case hy => rfl); (case hr => exact lgV_size ha _ _); (case h1 => exact lgV_ones ha rfl hdo); (case hB => exact b24.mod m5 (fun q => hne12 q.symm)); (case hi => decide); rintro W6 b6 m6))
    have b6' : Blk W6 B2 22 141 (layv (cf z2) 0 (lgV a (.slice none 0 0) dv')) := b6
    refine post_row rt132 (lgV a (.slice none 0 0) dv') (lgV_size ha _ _) rfl rfl (b6'.layRow (lgV_size ha _ _)) rfl ?_
    refine ⟨_, _, rfl, Or.inl ⟨rfl, rfl⟩, ((hd4.keep m5 (fun b hb hq => hb (Or.inl (Or.inr hq)))).keep m6 (fun b hb hq => hb (Or.inr hq))).narrow.narrow, ?_⟩
    exact Ext.trans_mod (Ext.trans_mod hE4 m5 (fun x hx => by have hx2 : x = B1 := hx; rw [hx2]; exact g1w)) m6 (fun x hx => by have hx2 : x = B2 := hx; rw [hx2]; exact g2w)
  · obtain ⟨ze, hel⟩ := el28
    obtain ⟨n, hn⟩ : ∃ n, Hid (tl.length = n) := ⟨_, rfl⟩
    obtain ⟨cs, hcs1, hcs2⟩ := WL.cells (b := tb) (off := toff) h5
    have hlt5 := fun i (hi : i < tl.length) => (h5 i hi).1
    have hrs : (rowOf cs 0 (n * 32)).size = n * 32 := rowOf_size _ _ _
    have hro : Ones (rowOf cs 0 (n * 32)) := ones_of (fun i hi => by
      rw [rowOf_size] at hi
      rw [cf_rowOf _ _ _ hi, Nat.zero_add]
      exact (hcs1 i (by rw [hn.out]; exact hi)).2)
    have KR : ∀ W, Ext W4 W → RowIn W tb toff (rowOf cs 0 (n * 32)) := fun W hW i v hv => by
      have hi := (Array.getElem?_eq_some_iff.1 hv).1
      rw [rowOf_size] at hi
      rw [(hE4.trans hW).cell h4, (hcs1 i (by rw [hn.out]; exact hi)).1]
      have := cf_get hv
      rw [cf_rowOf _ _ _ hi, Nat.zero_add] at this
      rw [this]
    rw [hn.out] at q20 h1
    have hn4' : n ≤ 4 := by have := hn.out; omega
    have hnz : ¬ n = 0 := fun q => hne0 (List.length_eq_zero_iff.1 (hn.out.trans q))
    have hzi : ((n : Int) == 0) = false := by simp; omega
    clear h5
    go_upto_region 7 with (first | ((with_reducible (refine Veil.out ?_; apply wl_load1 one29)); (case hx => rfl); (case hB => exact b4'.ext (by (repeat (first | with_reducible exact Ext.refl _ | with_reducible assumption | refine Ext.trans ?_ (by with_reducible assumption) | refine Ext.alloc ?_ _ _ | refine Ext.drew ?_ | refine Ext.drewN ?_ _)))); (case ho => decide); rw [q20]) | ((with_reducible (refine Veil.out ?_; apply wl_makeR under29 hel n)); (case hl => rfl); (case hc => rfl); (case hn => omega); rintro B5 W5 e5 b5 g5) | ((with_reducible (refine Veil.out ?_; apply wl_copyS under29 sz28 (k := n))); (case hd => rfl); (case hsr => rfl); (case hB => exact b5.ext (by (repeat (first | with_reducible exact Ext.refl _ | with_reducible assumption | refine Ext.trans ?_ (by with_reducible assumption) | refine Ext.alloc ?_ _ _ | refine Ext.drew ?_ | refine Ext.drewN ?_ _)))); (case hr => exact KR _ (by (repeat (first | with_reducible exact Ext.refl _ | with_reducible assumption | refine Ext.trans ?_ (by with_reducible assumption) | refine Ext.alloc ?_ _ _ | refine Ext.drew ?_ | refine Ext.drewN ?_ _)))); (case hk => exact Nat.min_self n); (case hn => exact hrs); (case h1 => omega); (case hon => exact hro); rintro W6 b6 m6))
    have hE46 : Ext W4 W6 := Ext.trans_mod (show Ext W4 _ by (repeat (first | with_reducible exact Ext.refl _ | with_reducible assumption | refine Ext.trans ?_ (by with_reducible assumption) | refine Ext.alloc ?_ _ _ | refine Ext.drew ?_ | refine Ext.drewN ?_ _))) m6 (fun x hx => by have hx2 : x = B5 := hx; rw [hx2]; exact g5)
    have hB15 : ¬ B1 = B5 := fun q => by have := b4'.lt; omega
    have hB25 : ¬ B2 = B5 := fun q => by have := b24.lt; omega
    have hd6 := hd4.ext hE46
    have b46 := b4'.ext hE46
    have b26 := b24.ext hE46
    have g5w : w.heap.size ≤ B5 := Nat.le_trans hE4.size g5
    go_wp2_with (first | ((with_reducible (refine Veil.out ?_; apply wl_storeC one29 (v := .slice (some ⟨B5, 0, none⟩) n n))); (case hx => rfl); (case hy => rfl); (case h1 => rfl); (case hB => exact b46.ext (by (repeat (first | with_reducible exact Ext.refl _ | with_reducible assumption | refine Ext.trans ?_ (by with_reducible assumption) | refine Ext.alloc ?_ _ _ | refine Ext.drew ?_ | refine Ext.drewN ?_ _)))); (case hi => decide); rintro W8 b8 m8) | ((with_reducible (refine Veil.out ?_; apply wl_loadRow rt132)); (case hx => rfl); (case hB => exact b8.ext (by (repeat (first | with_reducible exact Ext.refl _ | with_reducible assumption | refine Ext.trans ?_ (by with_reducible assumption) | refine Ext.alloc ?_ _ _ | refine Ext.drew ?_ | refine Ext.drewN ?_ _)))); (case hi => decide); rw [rowLg ha (qA.upd ha (by omega)) (updv_same _ _ _) ((updv_ne _ _ (by decide)).trans q21)]) | ((with_reducible (refine Veil.out ?_; apply wl_storeRow rt132)); (case hx => rfl); (case hy => rfl); (case hr => exact lgV_size ha _ _); (case h1 => exact lgV_ones ha rfl hdo); (case hB => exact b26.mod m8 (fun q => hne12 q.symm)); (case hi => decide); rintro W9 b9 m9))
    have b9' : Blk W9 B2 22 141 (layv (cf z2) 0 (lgV a (.slice (some ⟨B5, 0, none⟩) n n) dv')) := b9
    refine post_row rt132 (lgV a (.slice (some ⟨B5, 0, none⟩) n n) dv') (lgV_size ha _ _) rfl rfl (b9'.layRow (lgV_size ha _ _)) rfl ?_
    have b69 := ((b6.mod m8 (fun q => hB15 (Eq.symm q))).mod m9 (fun q => hB25 (Eq.symm q)))
    refine ⟨_, _, rfl, Or.inr ⟨B5, 0, n, by rw [hn.out], by rw [hn.out]; exact Nat.le_refl _, by omega, fun q => by have := hO _ q; omega, b69.lt, fun i hi => ⟨hlt5 i hi, fun k v hv => ?_⟩⟩, ((hd6.keep m8 (fun b hb hq => hb (Or.inl (Or.inr hq)))).keep m9 (fun b hb hq => hb (Or.inr hq))).narrow.narrow, ?_⟩
    · obtain ⟨hk, hv2⟩ := hcs2 i k v hi hv
      have hin : i < n := by have := hn.out; omega
      rw [b69.cell (by omega)]
      have := layv_in (fun i => cf ze (i % 32)) 0 (rowOf cs 0 (n * 32)) (j := i * 32 + k) (by rw [hrs]; omega)
      rw [cf_rowOf _ _ _ (by omega), Nat.zero_add, hv2] at this
      rw [← this]
      congr 2
      omega
    · exact Ext.trans_mod (Ext.trans_mod (hE4.trans hE46) m8 (fun x hx => by have hx2 : x = B1 := hx; rw [hx2]; exact g1w)) m9 (fun x hx => by have hx2 : x = B2 := hx; rw [hx2]; exact g2w)
end
end Go.Proofs.YgvahwGreat
