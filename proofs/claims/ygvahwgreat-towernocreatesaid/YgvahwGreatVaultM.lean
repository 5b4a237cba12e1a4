import Derived.Test.YgvahwGreatVaultL
namespace Go.Proofs.YgvahwGreat
open Go.RowKit

/-- The journal's entry is laid. -/
theorem push_end {own : Nat → Nat} {w w1 W : World} {g b b' : Nat} {c c2 c' : Nat → Value} {V : EV} {v' : Value} {e : JE} {z : Array Value} (h : VRep own w g c V) (hroom : V.journal.length < 65536) (hf : V.fits e)
    (hE : Ext w w1) (hTag : ∀ cap, c 10629 = .slice (some ⟨b, 0, none⟩) V.journal.length cap → own b = 3) (hRows : ∀ (i : Nat) (h : i < V.journal.reverse.length), JEC (Mu own) w c2 (i * 9) V.journal.reverse[i])
    (hG : Grown w1 227 9 (c 10629) V.journal.length b c2 z.toList v' W b' c')
    (hnew : ∀ (own' : Nat → Nat) (w' : World) (c3 : Nat → Value) (o : Nat), Keep own own' g 3 w w' → (∀ j u, z.toList[j]? = some u → c3 (o + j) = u) → JEC (Mu own') w' c3 o e) :
    ∃ own' c'', VRep own' (W.setCell ⟨g, 10629, none⟩ v') g c'' (V.push e) ∧ VStep own w c own' (W.setCell ⟨g, 10629, none⟩ v') c'' := by
  have hB0 := h.blk.ext hE
  have hgb : b' ≠ g ∧ (b' < w.heap.size → own b' = 3) ∧ Blk W g 27024 105 c ∧ Mod (fun x => x = g ∨ own x = 3) w W := by
    rcases hG.how with ⟨q, ⟨cp, hc⟩, hm⟩ | ⟨q, hx⟩
    · have h1 := hTag cp hc
      have hne : b ≠ g := fun e2 => by have := h.tag; rw [← e2, h1] at this; omega
      refine ⟨by rw [q]; exact hne, fun _ => by rw [q]; exact h1, hB0.mod hm (fun e2 => hne e2.symm), (hE.mod _).trans' hm (fun i hi => Or.inl (Or.inr (by rw [hi]; exact h1)))⟩
    · have hs := hE.size
      have hg := h.blk.lt
      exact ⟨by rw [q]; omega, fun h1 => by rw [q] at h1; omega, hB0.ext hx, (hE.mod _).trans_ext hx⟩
  obtain ⟨hbg, hbt, hBW, hMW⟩ := hgb
  obtain ⟨own', hown⟩ : ∃ own' : Nat → Nat, own' = fun x => if x = b' then 3 else own x := ⟨_, rfl⟩
  have ho1 : own' b' = 3 := by rw [hown]; simp
  have ho2 : ∀ x, x ≠ b' → own' x = own x := fun x hx => by rw [hown]; simp [hx]
  have hkeep : ∀ x, x < w.heap.size → own' x = own x := fun x hx => by
    by_cases q : x = b'
    · subst q; rw [ho1, hbt hx]
    · exact ho2 x q
  have hMF : Mod (fun x => x = g ∨ own x = 3) w (W.setCell ⟨g, 10629, none⟩ v') := hMW.setCell (Or.inl (Or.inl rfl)) _
  have K : Keep own own' g 3 w (W.setCell ⟨g, 10629, none⟩ v') := ⟨hkeep, hMF, h.tag, by decide⟩
  have hBF := hBW.set 10629 v'
  have hcF : ∀ i, i ≠ 10629 → updv c 10629 v' i = c i := fun i h1 => updv_ne _ _ h1
  have hc0 : updv c 10629 v' 10629 = v' := updv_same _ _ _
  obtain ⟨cF, hcFe⟩ : ∃ cF, cF = updv c 10629 v' := ⟨_, rfl⟩
  rw [← hcFe] at hBF hcF hc0
  have hsF : W.heap.size = (W.setCell ⟨g, 10629, none⟩ v').heap.size := by simp [World.setCell]
  have hb'W : b' < W.heap.size := by
    rcases hG.arn with ⟨q, _⟩ | ⟨cp, _, _, _, q⟩
    · omega
    · exact q.lt
  refine ⟨own', cF, ?_, hkeep, fun i hi => hcF i (by omega), hMF.sub (fun i hi => ?_)⟩
  · refine ⟨hBF, by rw [ho2 g hbg.symm]; exact h.tag, fun x hx => ?_, ⟨h.wf.a1, h.wf.s1, h.wf.t1, h.wf.sA, h.wf.tA⟩, ⟨fun d hd => ?_, fun p hp => ?_, h.jok.fall⟩, h.nA, h.nS, h.nT, ?_, h.nL, h.nM, ?_, ?_, ?_, ?_, ?_, ?_, ?_, ?_, ?_, ?_, ?_, h.rLt⟩
    · rw [← hsF] at hx
      rw [ho2 x (by omega)]
      exact h.fresh x (Nat.le_trans hMW.size hx)
    · rcases List.mem_cons.1 hd with rfl | hd
      · exact hf
      · exact h.jok.fits d hd
    · show p ≤ (e :: V.journal).length
      rw [List.length_cons]; have := h.jok.marks p hp; omega
    · show (e :: V.journal).length ≤ 65536
      rw [List.length_cons]; omega
    · rw [hcF 2435 (by omega)]; exact K.row h.accts (fun _ _ _ k => K.acct (fun _ _ => rfl) k) (by decide) (by decide)
    · rw [hcF 2436 (by omega)]; exact K.row h.slots (fun _ _ _ k => k) (by decide) (by decide)
    · rw [hcF 27017 (by omega)]; exact K.row h.temps (fun _ _ _ k => k) (by decide) (by decide)
    · rw [hc0]
      show GRow 227 9 _ _ _ v' (e :: V.journal).reverse
      rw [List.reverse_cons]
      have hG2 : Grown w1 227 9 (c 10629) V.journal.reverse.length b c2 z.toList v' W b' c' := by rw [List.length_reverse]; exact hG
      have hp : GRow 227 9 (JEC (Mu own') (W.setCell ⟨g, 10629, none⟩ v')) (Ow own' 3) W v' (V.journal.reverse ++ [e]) :=
        GRow.push hG2 hRows (fun c c' o y hc hy => K.je hc hy) (fun hn => hnew own' _ _ _ K hn) ho1
      exact hp.mono (fun _ _ _ k => k) (fun _ _ k => k) (fun b n t c hb hT => hb.off (by unfold Ow at hT; intro q; rw [q, ho2 g hbg.symm, h.tag] at hT; omega))
    · rw [hcF 27016 (by omega)]; exact K.row h.logs (fun _ _ _ k => K.log (fun _ _ => rfl) k) (by decide) (by decide)
    · obtain ⟨t2, q1, q2⟩ := h.tA
      exact ⟨t2, fun p hp => by rw [hcF _ (by omega)]; exact q1 p hp, q2⟩
    · obtain ⟨t2, q1, q2⟩ := h.tS
      exact ⟨t2, fun p hp => by rw [hcF _ (by omega)]; exact q1 p hp, q2⟩
    · rw [hcF 27018 (by omega)]
      rcases h.tT with q | ⟨t2, q1, q2⟩
      · exact Or.inl q
      · exact Or.inr ⟨t2, K.tab q1 (by decide), q2⟩
    · intro id hid
      have := h.nM
      have hid' : id < V.marks.length := hid
      rw [hcF _ (by omega)]; exact h.marks id hid
    · rw [hcF 27014 (by omega)]; exact h.nm
    · rw [hcF 27015 (by omega)]; exact h.ref
  · rcases hi with q | q
    · subst q; rw [h.tag]; exact ⟨by decide, by decide⟩
    · rw [q]; exact ⟨by decide, by decide⟩
/-- An account of the arena is changed. -/
theorem modA_end {own : Nat → Nat} {w w' : World} {g i b cap : Nat} {c c2 c3 : Nat → Value} {V : EV} {f : EAcct → EAcct} (h : VRep own w g c V) (hv : c 2435 = .slice (some ⟨b, 0, none⟩) V.accts.length cap) (hcap : V.accts.length ≤ cap) (hcm : cap ≤ 9223372036854775807) (hb : own b = 1) (hi : i < V.accts.length)
    (hRows : ∀ (i : Nat) (h : i < V.accts.length), AcctC (Mu own) w c2 (i * 29) V.accts[i]) (hB : Blk w' b (cap * 29) 176 c3) (hc : ∀ j, j < i * 29 ∨ (i + 1) * 29 ≤ j → c3 j = c2 j) (hm : Mod (· = b) w w')
    (hf : ∀ x, (f x).addr = x.addr) (hnew : ∀ own' w', Keep own own' g 1 w w' → AcctC (Mu own') w' c3 (i * 29) (f V.accts[i])) : VRep own w' g c (V.modA i f) ∧ VStep own w c own w' c := by
  have K : Keep own own g 1 w w' := ⟨fun _ _ => rfl, hm.sub (fun x hx => Or.inr (by rw [hx]; exact hb)), h.tag, by decide⟩
  have hne : g ≠ b := fun q => by have := h.tag; rw [q, hb] at this; omega
  have hlen : (V.modA i f).accts.length = V.accts.length := by simp [EV.modA]
  have hset : (V.modA i f).accts = V.accts.set i (f V.accts[i]) := by unfold EV.modA; exact modify_set _ _ _ hi
  refine ⟨⟨h.blk.mod hm hne, h.tag, fun x hx => h.fresh x (Nat.le_trans hm.size hx), WF_modA h.wf f hf, ⟨fun e he => fits_more (h.jok.fits e he) (by rw [hlen]; exact Nat.le_refl _) (Nat.le_refl _) (Nat.le_refl _), h.jok.marks, h.jok.fall⟩, by rw [hlen]; exact h.nA, h.nS, h.nT, h.nJ, h.nL, h.nM, ?_, K.row h.slots (fun _ _ _ k => k) (by decide) (by decide), K.row h.temps (fun _ _ _ k => k) (by decide) (by decide),
    K.row h.jrn (fun _ _ _ k => K.je (fun _ _ => rfl) k) (by decide) (by decide), K.row h.logs (fun _ _ _ k => K.log (fun _ _ => rfl) k) (by decide) (by decide), ?_, h.tS, ?_, h.marks, h.nm, h.ref, h.rLt⟩, fun _ _ => rfl, fun _ _ => rfl, hm.sub (fun x hx => by rw [hx, hb]; exact ⟨by decide, by decide⟩)⟩
  · rw [hset]
    exact GRow.change (R := AcctC (Mu own) w) hv hcap hcm hB hb hRows i _ hc (fun c c' o y hc hy => K.acct hc hy) (hnew own w' K)
  · obtain ⟨t, q1, q2⟩ := h.tA
    refine ⟨t, q1, ?_⟩
    rw [hlen]
    refine q2.congr (fun j hj => ?_)
    rw [hset]
    congr 1
    simp only [List.getD_eq_getElem?_getD, List.getElem?_set]
    split
    · rename_i q; subst q; simp [hi, hf]
    · rfl
  · rcases h.tT with q | ⟨t2, q1, q2⟩
    · exact Or.inl q
    · exact Or.inr ⟨t2, K.tab q1 (by decide), q2⟩
end Go.Proofs.YgvahwGreat
