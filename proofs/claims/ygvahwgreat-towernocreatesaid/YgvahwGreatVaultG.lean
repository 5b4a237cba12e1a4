import Derived.Test.YgvahwGreatKeep
import Derived.Deep.AppendLies
import Derived.Deep.RegionHeldLaw
namespace Go.Proofs.YgvahwGreat
open Go.RowKit

/-- The cells of an account that is new. -/
def acctZ (a : Nat) : Array Value := layA #[.int .u8 0, .int .u8 0, .int .u8 0, .int .u8 0, .int .u8 0, .int .u8 0, .int .u8 0, .int .u8 0, .int .u8 0, .int .u8 0, .int .u8 0, .int .u8 0, .int .u8 0, .int .u8 0, .int .u8 0, .int .u8 0, .int .u8 0, .int .u8 0, .int .u8 0, .int .u8 0, .int .u64 0, .int .u64 0, .int .u64 0, .int .u64 0, .int .u64 0, .slice none 0 0, .bool false, .bool false, .bool false] 0 (av a)
theorem acctZ_fold (a n : Nat) (h : (av a).size = n) : Array.foldl (fun cs x => cs.setIfInBounds x.snd x.fst) #[.int .u8 0, .int .u8 0, .int .u8 0, .int .u8 0, .int .u8 0, .int .u8 0, .int .u8 0, .int .u8 0, .int .u8 0, .int .u8 0, .int .u8 0, .int .u8 0, .int .u8 0, .int .u8 0, .int .u8 0, .int .u8 0, .int .u8 0, .int .u8 0, .int .u8 0, .int .u8 0, .int .u64 0, .int .u64 0, .int .u64 0, .int .u64 0, .int .u64 0, .slice none 0 0, .bool false, .bool false, .bool false] (av a).zipIdx 0 n = acctZ a := lay0_fold _ _ n h
theorem acctZ_size (a : Nat) : (acctZ a).size = 29 := by unfold acctZ; rw [layA_size]; rfl
theorem acctZ_full (a : Nat) : Array.foldl (fun cs x => cs.setIfInBounds x.snd x.fst) #[.int .u8 0, .int .u8 0, .int .u8 0, .int .u8 0, .int .u8 0, .int .u8 0, .int .u8 0, .int .u8 0, .int .u8 0, .int .u8 0, .int .u8 0, .int .u8 0, .int .u8 0, .int .u8 0, .int .u8 0, .int .u8 0, .int .u8 0, .int .u8 0, .int .u8 0, .int .u8 0, .int .u64 0, .int .u64 0, .int .u64 0, .int .u64 0, .int .u64 0, .slice none 0 0, .bool false, .bool false, .bool false] (acctZ a).zipIdx 0 29 = acctZ a := by
  rw [lay0_fold _ _ 29 (acctZ_size a), layA_full _ _ (by rw [acctZ_size]; rfl)]
theorem acctZ_low {a i : Nat} {v : Value} (ha : a < 2 ^ 160) (h : (av a)[i]? = some v) : (acctZ a)[i]? = some v := by
  have hi := (Array.getElem?_eq_some_iff.1 h).1
  have hs := av_size ha
  unfold acctZ
  rw [layA_get, if_pos ⟨by omega, by omega, by show i < 29; omega⟩]; simpa using h
theorem acctZ_high {a i : Nat} (ha : a < 2 ^ 160) (h : 20 ≤ i) : (acctZ a)[i]? = #[Value.int .u8 0, .int .u8 0, .int .u8 0, .int .u8 0, .int .u8 0, .int .u8 0, .int .u8 0, .int .u8 0, .int .u8 0, .int .u8 0, .int .u8 0, .int .u8 0, .int .u8 0, .int .u8 0, .int .u8 0, .int .u8 0, .int .u8 0, .int .u8 0, .int .u8 0, .int .u8 0, .int .u64 0, .int .u64 0, .int .u64 0, .int .u64 0, .int .u64 0, .slice none 0 0, .bool false, .bool false, .bool false][i]? := by
  unfold acctZ
  rw [layA_get, if_neg (by rw [av_size ha]; omega)]
theorem under77 : Hvah.prog.underlying 90 = some (.slice 176) := by kernel_rfl
theorem info168 : Hvah.prog.info? 176 = some Hvah.t176 := by kernel_rfl
theorem zero168 : Hvah.t176.zero = some (.agg #[.int .u8 0, .int .u8 0, .int .u8 0, .int .u8 0, .int .u8 0, .int .u8 0, .int .u8 0, .int .u8 0, .int .u8 0, .int .u8 0, .int .u8 0, .int .u8 0, .int .u8 0, .int .u8 0, .int .u8 0, .int .u8 0, .int .u8 0, .int .u8 0, .int .u8 0, .int .u8 0, .int .u64 0, .int .u64 0, .int .u64 0, .int .u64 0, .int .u64 0, .slice none 0 0, .bool false, .bool false, .bool false]) := by kernel_rfl
theorem size168 : Hvah.t176.size = 29 := by kernel_rfl
theorem bytes168 : Hvah.t176.bytes ≤ 4096 := by decide +kernel
attribute [local go_sem] acctZ_fold acctZ_size acctZ_full
theorem acctZ_one {a : Nat} (ha : a < 2 ^ 160) : ∀ u ∈ (acctZ a).toList, u.oneCell' = true := fun u hu => by
  obtain ⟨i, hi, rfl⟩ := List.getElem_of_mem hu
  have hi' : i < 29 := by simpa [acctZ_size] using hi
  rcases Nat.lt_or_ge i 20 with h | h
  · have h1 : i < (av a).size := by rw [av_size ha]; exact h
    have := acctZ_low (i := i) ha (Array.getElem?_eq_getElem h1)
    have e : (acctZ a).toList[i] = (av a)[i] := by
      have h2 := Array.getElem?_eq_some_iff.1 this
      simpa using h2.2
    rw [e]
    simp [av, bcells, Value.oneCell']
  · have := acctZ_high (i := i) ha h
    have hc : i = 20 ∨ i = 21 ∨ i = 22 ∨ i = 23 ∨ i = 24 ∨ i = 25 ∨ i = 26 ∨ i = 27 ∨ i = 28 := by omega
    rw [Array.getElem?_eq_getElem (by simpa using hi)] at this
    rcases hc with rfl | rfl | rfl | rfl | rfl | rfl | rfl | rfl | rfl <;> (simp at this; simp [this, Value.oneCell'])

/-- The cells of a new account. -/
theorem acctZ_new {O : Nat → Prop} {w : World} {a o : Nat} {c : Nat → Value} (ha : a < 2 ^ 160) (hc : ∀ j u, (acctZ a).toList[j]? = some u → c (o + j) = u) : AcctC O w c o (EAcct.new a) := by
  have Z : ∀ k, lim 0 k = 0 := fun k => by simp [lim]
  have H : ∀ j, 20 ≤ j → ∀ u, #[Value.int .u8 0, .int .u8 0, .int .u8 0, .int .u8 0, .int .u8 0, .int .u8 0, .int .u8 0, .int .u8 0, .int .u8 0, .int .u8 0, .int .u8 0, .int .u8 0, .int .u8 0, .int .u8 0, .int .u8 0, .int .u8 0, .int .u8 0, .int .u8 0, .int .u8 0, .int .u8 0, .int .u64 0, .int .u64 0, .int .u64 0, .int .u64 0, .int .u64 0, .slice none 0 0, .bool false, .bool false, .bool false][j]? = some u → c (o + j) = u := fun j hj u hu =>
    hc j u (by rw [Array.getElem?_toList, acctZ_high ha hj]; exact hu)
  refine ⟨fun i v hv => hc i v (by rw [Array.getElem?_toList]; exact acctZ_low ha hv), ha, H 20 (by omega) _ rfl, by show 0 < _; decide, ⟨?_, ?_, ?_, ?_⟩, P256_pos, ?_, H 26 (by omega) _ rfl, H 27 (by omega) _ rfl, H 28 (by omega) _ rfl⟩
  · show c (o + 21) = .int .u64 ((lim 0 0 : Nat) : Int); rw [Z]; exact H 21 (by omega) _ rfl
  · show c (o + 21 + 1) = .int .u64 ((lim 0 1 : Nat) : Int); rw [Z]; exact H 22 (by omega) _ rfl
  · show c (o + 21 + 2) = .int .u64 ((lim 0 2 : Nat) : Int); rw [Z]; exact H 23 (by omega) _ rfl
  · show c (o + 21 + 3) = .int .u64 ((lim 0 3 : Nat) : Int); rw [Z]; exact H 24 (by omega) _ rfl
  · rw [H 25 (by omega) _ rfl]; exact NL.nil
theorem fits_more {V X : EV} {e : JE} (h : V.fits e) (h1 : V.accts.length ≤ X.accts.length) (h2 : V.slots.length ≤ X.slots.length) (h3 : V.temps.length ≤ X.temps.length) : X.fits e :=
  ⟨fun k => Nat.lt_of_lt_of_le (h.1 k) h1, fun k => Nat.lt_of_lt_of_le (h.2.1 k) h2, fun k => Nat.lt_of_lt_of_le (h.2.2.1 k) h3, h.2.2.2⟩
theorem acct_end {own : Nat → Nat} {w w1 W : World} {g a d b b' : Nat} {c c2 c' : Nat → Value} {V : EV} {t : Nat → Int} {v' : Value} (h : VRep own w g c V) (ha : a < 2 ^ 160) (hj : V.ix a = none) (hroom : V.accts.length < 2560)
    (ht : ∀ p, p < 4096 → c (2437 + p) = .int .i32 (t p)) (hT : TOK 4096 V.accts.length (fun i => acctH (V.accts.getD i (EAcct.new 0)).addr) t) (hd : d < 4096) (hfree : t ((acctH a + d) % 4096) = -1) (hbusy : ∀ e, e < d → 0 ≤ t ((acctH a + e) % 4096))
    (hE : Ext w w1) (hTag : ∀ cap, c 2435 = .slice (some ⟨b, 0, none⟩) V.accts.length cap → own b = 1) (hRows : ∀ (i : Nat) (h : i < V.accts.length), AcctC (Mu own) w c2 (i * 29) V.accts[i])
    (hG : Grown ((w1.alloc (.cells (acctZ a) 176)).drew) 176 29 (c 2435) V.accts.length b c2 (acctZ a).toList v' W b' c') :
    ∃ own' c'', VRep own' ((W.setCell ⟨g, 2435, none⟩ v').setCell ⟨g, 2437 + (acctH a + d) % 4096, none⟩ (.int .i32 (V.accts.length : Nat))) g c'' (V.need a) ∧ VStep own w c own' ((W.setCell ⟨g, 2435, none⟩ v').setCell ⟨g, 2437 + (acctH a + d) % 4096, none⟩ (.int .i32 (V.accts.length : Nat))) c'' := by
  have hP : (acctH a + d) % 4096 < 4096 := Nat.mod_lt _ (by decide)
  obtain ⟨P, hPe⟩ : ∃ P, P = (acctH a + d) % 4096 := ⟨_, rfl⟩
  rw [← hPe] at hP ⊢
  have hE0 : Ext w ((w1.alloc (.cells (acctZ a) 176)).drew) := (hE.alloc _ _).drew
  have hB0 := h.blk.ext hE0
  have hgb : b' ≠ g ∧ (b' < w.heap.size → own b' = 1) ∧ Blk W g 27024 105 c ∧ Mod (fun x => x = g ∨ own x = 1) w W := by
    rcases hG.how with ⟨e, ⟨cp, hc⟩, hm⟩ | ⟨e, hx⟩
    · have h1 := hTag cp hc
      have hne : b ≠ g := fun e2 => by have := h.tag; rw [← e2, h1] at this; omega
      refine ⟨by rw [e]; exact hne, fun _ => by rw [e]; exact h1, hB0.mod hm (fun e2 => hne e2.symm), (hE0.mod _).trans' hm (fun i hi => Or.inl (Or.inr (by rw [hi]; exact h1)))⟩
    · have hs := hE0.size
      have hg := h.blk.lt
      exact ⟨by rw [e]; omega, fun h1 => by rw [e] at h1; omega, hB0.ext hx, (hE0.mod _).trans_ext hx⟩
  obtain ⟨hbg, hbt, hBW, hMW⟩ := hgb
  obtain ⟨own', hown⟩ : ∃ own' : Nat → Nat, own' = fun x => if x = b' then 1 else own x := ⟨_, rfl⟩
  have ho1 : own' b' = 1 := by rw [hown]; simp
  have ho2 : ∀ x, x ≠ b' → own' x = own x := fun x hx => by rw [hown]; simp [hx]
  have hkeep : ∀ x, x < w.heap.size → own' x = own x := fun x hx => by
    by_cases e : x = b'
    · subst e; rw [ho1, hbt hx]
    · exact ho2 x e
  have hMF : Mod (fun x => x = g ∨ own x = 1) w ((W.setCell ⟨g, 2435, none⟩ v').setCell ⟨g, 2437 + P, none⟩ (.int .i32 (V.accts.length : Nat))) := (hMW.setCell (Or.inl (Or.inl rfl)) _).setCell (Or.inl (Or.inl rfl)) _
  have K : Keep own own' g 1 w ((W.setCell ⟨g, 2435, none⟩ v').setCell ⟨g, 2437 + P, none⟩ (.int .i32 (V.accts.length : Nat))) := ⟨hkeep, hMF, h.tag, by decide⟩
  have hBF := (hBW.set 2435 v').set (2437 + P) (.int .i32 (V.accts.length : Nat))
  have hcF : ∀ i, i ≠ 2435 → i ≠ 2437 + P → updv (updv c 2435 v') (2437 + P) (.int .i32 (V.accts.length : Nat)) i = c i := fun i h1 h2 => by rw [updv_ne _ _ h2, updv_ne _ _ h1]
  have hc0 : updv (updv c 2435 v') (2437 + P) (.int .i32 (V.accts.length : Nat)) 2435 = v' := by rw [updv_ne _ _ (by omega), updv_same]
  have hc1 : updv (updv c 2435 v') (2437 + P) (.int .i32 (V.accts.length : Nat)) (2437 + P) = .int .i32 (V.accts.length : Nat) := updv_same _ _ _
  obtain ⟨cF, hcFe⟩ : ∃ cF, cF = updv (updv c 2435 v') (2437 + P) (.int .i32 (V.accts.length : Nat)) := ⟨_, rfl⟩
  rw [← hcFe] at hBF hcF hc0 hc1
  have e2 : V.need a = { V with accts := V.accts ++ [EAcct.new a] } := by unfold EV.need; rw [hj]; simp
  have hsF : W.heap.size = ((W.setCell ⟨g, 2435, none⟩ v').setCell ⟨g, 2437 + P, none⟩ (.int .i32 (V.accts.length : Nat))).heap.size := by simp [World.setCell]
  have hb'W : b' < W.heap.size := by
    rcases hG.arn with ⟨q, _⟩ | ⟨cp, _, _, _, q⟩
    · omega
    · exact q.lt
  refine ⟨own', cF, ?_, hkeep, fun i hi => hcF i (by omega) (by omega), hMF.sub (fun i hi => ?_)⟩
  · rw [e2]
    refine ⟨hBF, by rw [ho2 g hbg.symm]; exact h.tag, fun x hx => ?_, by rw [← e2]; exact need_wf h.wf a, ⟨fun e he => fits_more (h.jok.fits e he) (by simp) (Nat.le_refl _) (Nat.le_refl _), h.jok.marks, h.jok.fall⟩, by simp; omega, h.nS, h.nT, h.nJ, h.nL, h.nM, ?_, ?_, ?_, ?_, ?_, ?_, ?_, ?_, ?_, ?_, ?_, h.rLt⟩
    · rw [← hsF] at hx
      rw [ho2 x (by omega)]
      exact h.fresh x (Nat.le_trans hMW.size hx)
    · rw [hc0]
      have hG2 : Grown ((w1.alloc (.cells (acctZ a) 176)).drew) 176 29 (c 2435) V.accts.length b c2 (acctZ a).toList v' W b' c' := hG
      have hp : GRow 176 29 (AcctC (Mu own') ((W.setCell ⟨g, 2435, none⟩ v').setCell ⟨g, 2437 + P, none⟩ (.int .i32 (V.accts.length : Nat)))) (Ow own' 1) W v' (V.accts ++ [EAcct.new a]) :=
        GRow.push hG2 hRows (fun c c' o y hc hy => K.acct hc hy) (fun hnew => acctZ_new ha hnew) ho1
      exact hp.mono (fun _ _ _ k => k) (fun _ _ k => k) (fun b n t c hb hT => (hb.off (by unfold Ow at hT; intro e; rw [e, ho2 g hbg.symm, h.tag] at hT; omega)).off (by unfold Ow at hT; intro e; rw [e, ho2 g hbg.symm, h.tag] at hT; omega))
    · rw [hcF 2436 (by omega) (by omega)]; exact K.row h.slots (fun _ _ _ k => k) (by decide) (by decide)
    · rw [hcF 27017 (by omega) (by omega)]; exact K.row h.temps (fun _ _ _ k => k) (by decide) (by decide)
    · rw [hcF 10629 (by omega) (by omega)]; exact K.row h.jrn (fun _ _ _ k => K.je (fun _ _ => rfl) k) (by decide) (by decide)
    · rw [hcF 27016 (by omega) (by omega)]; exact K.row h.logs (fun _ _ _ k => K.log (fun _ _ => rfl) k) (by decide) (by decide)
    · refine ⟨fun p => if p = P then (V.accts.length : Int) else t p, fun p hp => ?_, ?_⟩
      · by_cases e : p = P
        · subst e; rw [hc1]; simp
        · rw [hcF _ (by omega) (by omega)]
          show c (2437 + p) = .int .i32 (if p = P then _ else t p)
          rw [if_neg e]; exact ht p hp
      · have hT' : TOK 4096 V.accts.length (fun i => acctH ((V.accts ++ [EAcct.new a]).getD i (EAcct.new 0)).addr) t := hT.congr (fun i hi => by
          simp only [List.getD_eq_getElem?_getD]; rw [List.getElem?_append_left hi])
        have hme : acctH ((V.accts ++ [EAcct.new a]).getD V.accts.length (EAcct.new 0)).addr = acctH a := by simp [EAcct.new]
        have := hT'.put hd (by simp only [hme]; exact hfree) (fun e he => by simp only [hme]; exact hbusy e he)
        simp only [hme, ← hPe] at this
        simpa using this
    · obtain ⟨t2, q1, q2⟩ := h.tS
      exact ⟨t2, fun p hp => by rw [hcF _ (by omega) (by omega)]; exact q1 p hp, q2⟩
    · rw [hcF 27018 (by omega) (by omega)]
      rcases h.tT with q | ⟨t2, q1, q2⟩
      · exact Or.inl q
      · exact Or.inr ⟨t2, K.tab q1 (by decide), q2⟩
    · intro id hid
      have := h.nM
      rw [hcF _ (by omega) (by omega)]; exact h.marks id hid
    · rw [hcF 27014 (by omega) (by omega)]; exact h.nm
    · rw [hcF 27015 (by omega) (by omega)]; exact h.ref
  · rcases hi with e | e
    · subst e; rw [h.tag]; exact ⟨by decide, by decide⟩
    · rw [e]; exact ⟨by decide, by decide⟩
theorem rg_off {w : World} {b o g i : Nat} {cs : List Value} {v : Value} (h : w.rangeAt b o cs) (hb : b ≠ g) : (w.setCell ⟨g, i, none⟩ v).rangeAt b o cs := fun j u hu => by
  rw [World.cell?_of_block (w := w) (Below.heap_setCell _ _ _ _ hb)]; exact h j u hu
theorem rg_ext {w w' : World} {b o : Nat} {cs : List Value} (h : w.rangeAt b o cs) (hb : b < w.heap.size) (e : Ext w w') : w'.rangeAt b o cs := fun j u hu => by rw [e.rc _ _ hb]; exact h j u hu
theorem rg_mod {S : Nat → Prop} {w w' : World} {b o : Nat} {cs : List Value} (h : w.rangeAt b o cs) (hb : b < w.heap.size) (hS : ¬ S b) (e : Mod S w w') : w'.rangeAt b o cs := fun j u hu => by rw [e.cell (p := ⟨b, o + j, none⟩) hb hS]; exact h j u hu
section
variable {own : Nat → Nat} {w : World} {g : Nat} {c : Nat → Value} {V : EV} {a : Nat}
set_option maxRecDepth 100000 in
set_option maxHeartbeats 1600000 in
theorem vAcct (h : VRep own w g c V) (ha : a < 2 ^ 160) (hroom : V.ix a = none → V.accts.length < 2560) :
    Calls Hvah.prog 91 #[.pointer (some ⟨g, 2435, none⟩), .agg (av a)] w fun e w' => e = .returned (.tuple #[.int .i32 (V.at_ a : Nat), .bool true]) ∧ ∃ own' c', VRep own' w' g c' (V.need a) ∧ VStep own w c own' w' c' := by
  cases hj : V.ix a with
  | some j =>
    have HF := vFind_some h ha hj
    have e1 : V.at_ a = j := by unfold EV.at_; rw [hj]; rfl
    have e2 : V.need a = V := by unfold EV.need; rw [hj]; simp
    rw [e1, e2]
    go_enter Hvah.func91, Hvah.ntmps91
    go_wp2_with (first | ((with_reducible (refine Veil.out ?_; apply wl_box)); (case hx => rfl)) | ((with_reducible (refine Veil.out ?_; apply wl_load_av (n := a))); (case hn => exact ha); (case hx => rfl); (case hr => exact row_box a (Ext.refl _))) | (go_at_call 168; refine (HF _ ((Ext.refl _).alloc _ _)).mono ?_; rintro e w1 ⟨rfl, he⟩))
    go_ret2
    have hE := ((Ext.refl w).alloc (av a) 31).trans he
    exact ⟨rfl, own, c, h.ext hE, VStep.ext hE⟩
  | none =>
    obtain ⟨t, d, ht, hT, hd, hfree, hbusy, HF⟩ := vFind_none h ha hj
    have hroom := hroom hj
    have hP : (acctH a + d) % 4096 < 4096 := Nat.mod_lt _ (by decide)
    obtain ⟨P, hPe⟩ : ∃ P, Hid ((acctH a + d) % 4096 = P) := ⟨_, (rfl : (acctH a + d) % 4096 = _)⟩
    rw [hPe.out] at hP
    simp only [hPe.out] at HF
    have hPi : (P : Int) < 4096 := by omega
    have hsz := av_size ha
    obtain ⟨b, c2, hArn, hTag, hRows⟩ := h.accts.arn
    obtain ⟨v, hv⟩ : ∃ v, Hid (c 2435 = v) := ⟨_, (rfl : c 2435 = _)⟩
    have hlen : ∃ o cap, v = .slice o V.accts.length cap := by
      rw [← hv.out]
      rcases h.accts with ⟨q1, q2⟩ | ⟨b, cap, c3, q1, _⟩
      · rw [q1, q2]; exact ⟨none, 0, rfl⟩
      · exact ⟨_, _, q1⟩
    obtain ⟨o, cap, rfl⟩ := hlen
    rw [hv.out] at hArn hTag
    obtain ⟨n, hn⟩ : ∃ n, Hid (V.accts.length = n) := ⟨_, (rfl : V.accts.length = _)⟩
    rw [hn.out] at hArn hTag hv hroom
    have hni : (n : Int) < 2560 := by omega
    go_enter Hvah.func91, Hvah.ntmps91
    go_wp2_with (first | ((with_reducible (refine Veil.out ?_; apply wl_box)); (case hx => rfl)) | ((with_reducible (refine Veil.out ?_; apply wl_load_av (n := a))); (case hn => exact ha); (case hx => rfl); (case hr => exact row_box a (Ext.refl _))) | (go_at_call 168; refine (HF _ ((Ext.refl _).alloc _ _)).mono ?_; rintro e w1 ⟨rfl, he⟩; have hE := ((Ext.refl w).alloc (av a) 31).trans he; have k0 := (h.blk.ext hE).cell (i := 2435) (by omega); rw [hv.out] at k0; have hfz := (h.blk.ext hE).fz; have hra := row_box a he))
    have hB1 := h.blk.ext hE
    have hlt := hB1.lt
    have hlt2 : w.heap.size < w1.heap.size := Nat.lt_of_lt_of_le (by simp) he.size
    have HA : ∀ W, Ext w W → Arn W 176 29 (.slice o n cap) n b c2 := fun W hW => by
      rcases hArn with h1 | ⟨cp, h1, h2, h3, h4⟩
      · exact Or.inl h1
      · exact Or.inr ⟨cp, h1, h2, h3, h4.ext hW⟩
    have HBW : ∀ v' W b' c', Grown ((w1.alloc (.cells (acctZ a) 176)).drew) 176 29 (.slice o n cap) n b c2 (acctZ a).toList v' W b' c' → Blk W g 27024 105 c := fun v' W b' c' hG => by
      have hB2 := (hB1.alloc (acctZ a) 176).drew
      rcases hG.how with ⟨_, ⟨cp, hc⟩, hm⟩ | ⟨_, hx⟩
      · have h1 := hTag cp hc
        exact hB2.mod hm (fun e => by have := h.tag; rw [e, h1] at this; omega)
      · exact hB2.ext hx
    have hS0 : w1.drew.rangeAt w.heap.size 0 (av a).toList := fun j u hu => by rw [Array.getElem?_toList] at hu; exact hra j u hu
    have hS1 : ((w1.alloc (.cells (acctZ a) 176)).drew).rangeAt w.heap.size 0 (av a).toList := rg_ext hS0 (by simpa using hlt2) ((Ext.refl w1.drew).alloc _ _)
    have hwg : w.heap.size ≠ g := by have := h.blk.lt; omega
    have HSW : ∀ v' W b' c', Grown ((w1.alloc (.cells (acctZ a) 176)).drew) 176 29 (.slice o n cap) n b c2 (acctZ a).toList v' W b' c' → W.rangeAt w.heap.size 0 (av a).toList := fun v' W b' c' hG => by
      have hb1 : w.heap.size < ((w1.alloc (.cells (acctZ a) 176)).drew).heap.size := by simp; omega
      rcases hG.how with ⟨_, ⟨cp, hc⟩, hm⟩ | ⟨_, hx⟩
      · have h1 := hTag cp hc
        exact rg_mod hS1 hb1 (fun e => by have := h.fresh b (by rw [← e]; exact Nat.le_refl _); unfold Ow at h1; omega) hm
      · exact rg_ext hS1 hb1 hx
    have u25 := under25
    have s25 : (Hvah.prog.info? 31).map (·.size) = some (av a).toList.length := by rw [size25]; simp [hsz]
    have l25 : (av a).toList.length = 20 := by simp [hsz]
    have o25 : ∀ u ∈ (av a).toList, u.oneCell' = true := fun u hu => by
      simp [av, bcells] at hu
      obtain ⟨x, _, rfl⟩ := hu
      rfl
    clear hra
    refine wp_region_held_drew (S := fun w' => w'.rangeAt w.heap.size 0 (av a).toList) (by kernel_rfl) hS0 (fun hHeld => ?_)
    refine wpAnyH_take (i := 0) (v := ?_) rfl (by kernel_rfl) (by kernel_rfl) (by kernel_rfl) (fun _ _ _ h => h) (Or.inl ⟨by rfl, ?_⟩) hHeld ?_
    rotate_left
    · intro w hSw; go_simp; try with_reducible rfl
    change wpAnyH _ _ _ _ _ _ _ (Act.put _ (some 33) _) _
    simp only [Act.put, List.setIfInBounds_toArray, List.set_cons_zero, List.set_cons_succ]
    refine wpAnyH_take (i := 1) (v := ?_) rfl (by kernel_rfl) (by kernel_rfl) (by kernel_rfl) (fun _ _ _ h => h) (Or.inl ⟨by rfl, ?_⟩) hHeld ?_
    rotate_left
    · intro w hSw; go_simp; try with_reducible rfl
    change wpAnyH _ _ _ _ _ _ _ (Act.put _ (some 34) _) _
    simp only [Act.put, List.setIfInBounds_toArray, List.set_cons_zero, List.set_cons_succ]
    refine wpAnyH_take (i := 2) (v := ?_) rfl (by kernel_rfl) (by kernel_rfl) (by kernel_rfl) (fun _ _ _ h => h) (Or.inl ⟨by rfl, ?_⟩) hHeld ?_
    rotate_left
    · intro w hSw; go_simp; try with_reducible rfl
    change wpAnyH _ _ _ _ _ _ _ (Act.put _ (some 35) _) _
    simp only [Act.put, List.setIfInBounds_toArray, List.set_cons_zero, List.set_cons_succ]
    refine wpAnyH_take (i := 3) (v := ?_) rfl (by kernel_rfl) (by kernel_rfl) (by kernel_rfl) (fun _ _ _ h => h) (Or.inl ⟨by rfl, ?_⟩) hHeld ?_
    rotate_left
    · intro w hSw; go_simp; try with_reducible rfl
    change wpAnyH _ _ _ _ _ _ _ (Act.put _ (some 36) _) _
    simp only [Act.put, List.setIfInBounds_toArray, List.set_cons_zero, List.set_cons_succ]
    refine wpAnyH_take (i := 5) rfl (by kernel_rfl) (by kernel_rfl) (by kernel_rfl) (fun _ _ _ h => h) (yieldsIf_load_mid (by rfl) _ _ rfl _ _ rfl _ _ (fun w hSw => hSw) u25 rfl s25) hHeld ?_
    change wpAnyH _ _ _ _ _ _ _ (Act.put _ (some 38) _) _
    simp only [Act.put, List.setIfInBounds_toArray, List.set_cons_zero, List.set_cons_succ]
    refine wpAnyH_take (i := 6) (v := ?_) rfl (by kernel_rfl) (by kernel_rfl) (by kernel_rfl) (fun _ _ _ h => h) (Or.inl ⟨by rfl, ?_⟩) hHeld ?_
    rotate_left
    · intro w hSw; go_simp; try with_reducible rfl
    change wpAnyH _ _ _ _ _ _ _ (Act.put _ (some 39) _) _
    simp only [Act.put, List.setIfInBounds_toArray, List.set_cons_zero, List.set_cons_succ]
    refine wpAnyH_ready (rs := [4, 7]) (by kernel_rfl) (by simp) ?_
    refine AllReadyH.cons rfl (fun K hK => ?_) (AllReadyH.cons rfl (fun K hK => ?_) AllReadyH.nil)
    · go_simp
      refine hK.out _ _ ?_ (fun hHeld => ?_)
      · exact hS0
      clear hK K
      refine wpAnyH_ready (rs := [7]) (by kernel_rfl) (by simp) ?_
      refine AllReadyH.cons rfl (fun K hK => ?_) AllReadyH.nil
      go_simp
      refine hK.out _ _ ?_ (fun hHeld => ?_)
      · exact hS1
      clear hK K
      refine wpAnyH_ready (rs := [8]) (by kernel_rfl) (by simp) ?_
      refine AllReadyH.cons rfl (fun K hK => ?_) AllReadyH.nil
      refine step_append1 rfl (.tmp 37) (.tmp 40) 90 rfl 176 Hvah.t176 _ 29 under77 info168 zero168 size168 rfl bytes168 (.slice o n cap) n b c2 (HA _ ((hE.alloc _ _).drew)) (by omega) ⟨w1.heap.size, 0, none⟩ 1 (acctZ a).toList (by simp [acctZ_size]) (World.news_of_block (heap_new _ _)) (acctZ_one ha) (by simp [Act.eval]) (by simp [Act.eval]) ?_
      rintro v' W b' c' hG
      refine hK.out _ _ ?_ (fun hHeld => ?_)
      · exact HSW _ _ _ _ hG
      clear hK K
      change wpAnyH _ _ _ _ _ _ _ (Act.put _ (some 41) _) _
      simp only [Act.put, List.setIfInBounds_toArray, List.set_cons_zero, List.set_cons_succ]
      refine wpAnyH_take (i := 9) (v := ?_) rfl (by kernel_rfl) (by kernel_rfl) (by kernel_rfl) (fun _ _ _ h => h) (Or.inl ⟨by rfl, ?_⟩) hHeld ?_
      rotate_left
      · intro w hSw; go_simp; try with_reducible rfl
      change wpAnyH _ _ _ _ _ _ _ (Act.put _ (some 42) _) _
      simp only [Act.put, List.setIfInBounds_toArray, List.set_cons_zero, List.set_cons_succ]
      refine wpAnyH_take (i := 10) (v := ?_) rfl (by kernel_rfl) (by kernel_rfl) (by kernel_rfl) (fun _ _ _ h => h) (Or.inl ⟨by rfl, ?_⟩) hHeld ?_
      rotate_left
      · intro w hSw; go_simp; try with_reducible rfl
      change wpAnyH _ _ _ _ _ _ _ (Act.put _ (some 43) _) _
      simp only [Act.put, List.setIfInBounds_toArray, List.set_cons_zero, List.set_cons_succ]
      have hBW := HBW _ _ _ _ hG
      have kg := hBW.cell (i := 2435) (by omega)
      have kf := hBW.fz
      obtain ⟨cap', rfl⟩ := hG.some
      refine wpAnyH_ready (rs := [11]) (by kernel_rfl) (by simp) ?_
      refine AllReadyH.cons rfl (fun K hK => ?_) AllReadyH.nil
      go_simp
      refine hK.out _ _ ?_ (fun hHeld => ?_)
      · exact rg_off (by assumption) hwg
      clear hK K
      refine wpAnyH_done (by kernel_rfl) ?_ _
      clear hHeld
      have hR := acct_end h ha hj (by rw [hn.out]; omega) ht hT hd hfree hbusy hE (by rw [hv.out, hn.out]; exact hTag) hRows (by rw [hv.out, hn.out]; exact hG)
      rw [hPe.out, hn.out] at hR
      refine w_gen (fun X => Blk X g 27024 105 (updv c 2435 (.slice (some ⟨b', 0, none⟩) (n + 1) cap')) ∧ X = W.setCell ⟨g, 2435, none⟩ (.slice (some ⟨b', 0, none⟩) (n + 1) cap')) ⟨hBW.set _ _, rfl⟩ ?_
      rintro X ⟨hBX, hXe⟩
      rw [← hXe] at hR
      have kp := hBX.cell (i := 2437 + P) (by omega)
      have kf2 := hBX.fz
      have hat : V.at_ a = n := by unfold EV.at_; rw [hj]; exact hn.out
      clear hXe hBW kg kf hG k0 hfz hB1 HA HBW HSW hS0 hS1 u25 s25 l25 o25
      go_wp2
      go_ret2
      exact ⟨by rw [hat]; rfl, hR⟩
    · go_simp
      refine hK.out _ _ ?_ (fun hHeld => ?_)
      · exact hS1
      clear hK K
      refine wpAnyH_ready (rs := [4]) (by kernel_rfl) (by simp) ?_
      refine AllReadyH.cons rfl (fun K hK => ?_) AllReadyH.nil
      go_simp
      refine hK.out _ _ ?_ (fun hHeld => ?_)
      · exact hS1
      clear hK K
      refine wpAnyH_ready (rs := [8]) (by kernel_rfl) (by simp) ?_
      refine AllReadyH.cons rfl (fun K hK => ?_) AllReadyH.nil
      refine step_append1 rfl (.tmp 37) (.tmp 40) 90 rfl 176 Hvah.t176 _ 29 under77 info168 zero168 size168 rfl bytes168 (.slice o n cap) n b c2 (HA _ ((hE.alloc _ _).drew)) (by omega) ⟨w1.heap.size, 0, none⟩ 1 (acctZ a).toList (by simp [acctZ_size]) (World.news_of_block (heap_new _ _)) (acctZ_one ha) (by simp [Act.eval]) (by simp [Act.eval]) ?_
      rintro v' W b' c' hG
      refine hK.out _ _ ?_ (fun hHeld => ?_)
      · exact HSW _ _ _ _ hG
      clear hK K
      change wpAnyH _ _ _ _ _ _ _ (Act.put _ (some 41) _) _
      simp only [Act.put, List.setIfInBounds_toArray, List.set_cons_zero, List.set_cons_succ]
      refine wpAnyH_take (i := 9) (v := ?_) rfl (by kernel_rfl) (by kernel_rfl) (by kernel_rfl) (fun _ _ _ h => h) (Or.inl ⟨by rfl, ?_⟩) hHeld ?_
      rotate_left
      · intro w hSw; go_simp; try with_reducible rfl
      change wpAnyH _ _ _ _ _ _ _ (Act.put _ (some 42) _) _
      simp only [Act.put, List.setIfInBounds_toArray, List.set_cons_zero, List.set_cons_succ]
      refine wpAnyH_take (i := 10) (v := ?_) rfl (by kernel_rfl) (by kernel_rfl) (by kernel_rfl) (fun _ _ _ h => h) (Or.inl ⟨by rfl, ?_⟩) hHeld ?_
      rotate_left
      · intro w hSw; go_simp; try with_reducible rfl
      change wpAnyH _ _ _ _ _ _ _ (Act.put _ (some 43) _) _
      simp only [Act.put, List.setIfInBounds_toArray, List.set_cons_zero, List.set_cons_succ]
      have hBW := HBW _ _ _ _ hG
      have kg := hBW.cell (i := 2435) (by omega)
      have kf := hBW.fz
      obtain ⟨cap', rfl⟩ := hG.some
      refine wpAnyH_ready (rs := [11]) (by kernel_rfl) (by simp) ?_
      refine AllReadyH.cons rfl (fun K hK => ?_) AllReadyH.nil
      go_simp
      refine hK.out _ _ ?_ (fun hHeld => ?_)
      · exact rg_off (by assumption) hwg
      clear hK K
      refine wpAnyH_done (by kernel_rfl) ?_ _
      clear hHeld
      have hR := acct_end h ha hj (by rw [hn.out]; omega) ht hT hd hfree hbusy hE (by rw [hv.out, hn.out]; exact hTag) hRows (by rw [hv.out, hn.out]; exact hG)
      rw [hPe.out, hn.out] at hR
      refine w_gen (fun X => Blk X g 27024 105 (updv c 2435 (.slice (some ⟨b', 0, none⟩) (n + 1) cap')) ∧ X = W.setCell ⟨g, 2435, none⟩ (.slice (some ⟨b', 0, none⟩) (n + 1) cap')) ⟨hBW.set _ _, rfl⟩ ?_
      rintro X ⟨hBX, hXe⟩
      rw [← hXe] at hR
      have kp := hBX.cell (i := 2437 + P) (by omega)
      have kf2 := hBX.fz
      have hat : V.at_ a = n := by unfold EV.at_; rw [hj]; exact hn.out
      clear hXe hBW kg kf hG k0 hfz hB1 HA HBW HSW hS0 hS1 u25 s25 l25 o25
      go_wp2
      go_ret2
      exact ⟨by rw [hat]; rfl, hR⟩
end
end Go.Proofs.YgvahwGreat
