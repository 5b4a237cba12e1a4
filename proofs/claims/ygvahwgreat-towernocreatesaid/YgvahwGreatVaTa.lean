import Derived.Test.YgvahwGreatVaTl
import Derived.Test.YgvahwGreatRowsK
import Derived.Test.YgvahwGreatPg
namespace Go.Proofs.YgvahwGreat
open Go.RowKit
set_option linter.unusedSimpArgs false

/-- The vault where only the transient slots and their table have changed. -/
theorem VRep.genT {own own' : Nat → Nat} {w W1 W2 : World} {g kA kB : Nat} {c c' : Nat → Value} {V : EV} {tt : List ETemp} (h : VRep own w g c V) (hA : kA = 5 ∨ kA = 6) (hB2 : kB = 5 ∨ kB = 6) (K1 : Keep own own' g kA w W1) (K2 : Keep own' own' g kB W1 W2) (hfr : ∀ b, W2.heap.size ≤ b → own' b = 0) (hB : Blk W2 g 27024 105 c')
    (hcF : ∀ i, 2435 ≤ i → i ≠ 27017 → i ≠ 27018 → i < 27019 → c' i = c i) (wf : ({ V with temps := tt } : EV).WF) (nT : tt.length ≤ 12288) (hle : V.temps.length ≤ tt.length) (ht : GRow 439 9 TempC (Ow own' 5) W2 (c' 27017) tt)
    (htab : ∃ t, TTab (Ow own' 6) W2 (c' 27018) t ∧ TOK 16384 tt.length (fun i => mixP (tt.getD i (ETemp.new 0 0)).acct (tt.getD i (ETemp.new 0 0)).key % 16384) t) : VRep own' W2 g c' { V with temps := tt } := by
  have hn : ∀ j, j ≠ 5 → j ≠ 6 → j ≠ kA ∧ j ≠ kB := fun j h1 h2 => by omega
  refine ⟨hB, K2.gk, hfr, wf, ⟨fun e he => fits_more (h.jok.fits e he) (Nat.le_refl _) (Nat.le_refl _) hle, h.jok.marks, h.jok.fall⟩, h.nA, h.nS, nT, h.nJ, h.nL, h.nM, ?_, ?_, ht, ?_, ?_, ?_, ?_, Or.inr htab, ?_, ?_, ?_, h.rLt⟩
  · rw [hcF 2435 (by omega) (by omega) (by omega) (by omega)]; exact K2.row (K1.row h.accts (fun _ _ _ k => K1.acct (fun _ _ => rfl) k) (hn 1 (by decide) (by decide)).1 (by decide)) (fun _ _ _ k => K2.acct (fun _ _ => rfl) k) (hn 1 (by decide) (by decide)).2 (by decide)
  · rw [hcF 2436 (by omega) (by omega) (by omega) (by omega)]; exact K2.row (K1.row h.slots (fun _ _ _ k => k) (hn 2 (by decide) (by decide)).1 (by decide)) (fun _ _ _ k => k) (hn 2 (by decide) (by decide)).2 (by decide)
  · rw [hcF 10629 (by omega) (by omega) (by omega) (by omega)]; exact K2.row (K1.row h.jrn (fun _ _ _ k => K1.je (fun _ _ => rfl) k) (hn 3 (by decide) (by decide)).1 (by decide)) (fun _ _ _ k => K2.je (fun _ _ => rfl) k) (hn 3 (by decide) (by decide)).2 (by decide)
  · rw [hcF 27016 (by omega) (by omega) (by omega) (by omega)]; exact K2.row (K1.row h.logs (fun _ _ _ k => K1.log (fun _ _ => rfl) k) (hn 4 (by decide) (by decide)).1 (by decide)) (fun _ _ _ k => K2.log (fun _ _ => rfl) k) (hn 4 (by decide) (by decide)).2 (by decide)
  · obtain ⟨t2, q1, q2⟩ := h.tA
    exact ⟨t2, fun p hp => by rw [hcF _ (by omega) (by omega) (by omega) (by omega)]; exact q1 p hp, q2⟩
  · obtain ⟨t2, q1, q2⟩ := h.tS
    exact ⟨t2, fun p hp => by rw [hcF _ (by omega) (by omega) (by omega) (by omega)]; exact q1 p hp, q2⟩
  · intro id hid
    have := h.nM
    have hid2 : id < V.marks.length := hid
    rw [hcF _ (by omega) (by omega) (by omega) (by omega)]; exact h.marks id hid
  · rw [hcF 27014 (by omega) (by omega) (by omega) (by omega)]; exact h.nm
  · rw [hcF 27015 (by omega) (by omega) (by omega) (by omega)]; exact h.ref
/-- The cells of a transient slot that is new. -/
abbrev tempZ (i k : Nat) : Array Value := #[.int .i32 (i : Nat), .int .u64 (lim k 0 : Nat), .int .u64 (lim k 1 : Nat), .int .u64 (lim k 2 : Nat), .int .u64 (lim k 3 : Nat), .int .u64 0, .int .u64 0, .int .u64 0, .int .u64 0]
theorem tempZ_new {i k o : Nat} {c : Nat → Value} (hi : i < 2560) (hk : k < P256) (hc : ∀ j u, (tempZ i k).toList[j]? = some u → c (o + j) = u) : TempC c o (ETemp.new i k) where
  acct := hc 0 _ rfl
  aLt := hi
  key := ⟨hc 1 _ rfl, hc 2 _ rfl, hc 3 _ rfl, hc 4 _ rfl⟩
  kLt := hk
  val := WAt.zero (hc 5 _ rfl) (hc 6 _ rfl) (hc 7 _ rfl) (hc 8 _ rfl)
  vLt := P256_pos
theorem under82 : Hvah.prog.underlying 95 = some (.slice 439) := by kernel_rfl
theorem info431 : Hvah.prog.info? 439 = some Hvah.t439 := by kernel_rfl
theorem zero431 : Hvah.t439.zero = some (.agg #[.int .i32 0, .int .u64 0, .int .u64 0, .int .u64 0, .int .u64 0, .int .u64 0, .int .u64 0, .int .u64 0, .int .u64 0]) := by kernel_rfl
theorem size431 : Hvah.t439.size = 9 := by kernel_rfl
theorem bytes431 : Hvah.t439.bytes ≤ 4096 := by decide +kernel
theorem tempZ_one (i k : Nat) : ∀ u ∈ (tempZ i k).toList, u.oneCell' = true := fun u hu => by
  simp only [List.mem_cons, List.not_mem_nil, or_false] at hu
  rcases hu with h | h | h | h | h | h | h | h | h <;> subst h <;> rfl
theorem under83 : Hvah.prog.underlying 96 = some (.slice 21) := by kernel_rfl

/-- A transient slot is put at the end, and into the table's place P. -/
theorem temp_end {own : Nat → Nat} {w W W5 W6 : World} {g i k d b b' bt capt : Nat} {c c2 c' ct : Nat → Value} {V : EV} {t : Nat → Int} {v' : Value} (h : VRep own w g c V) (hi : i < V.accts.length) (hk : k < P256) (hj : ixG ETemp.kc (i, k) V.temps = none) (hroom : V.temps.length < 12288)
    (htv : c 27018 = .slice (some ⟨bt, 0, none⟩) 16384 capt) (hcapt : 16384 ≤ capt) (hbt : Blk w bt capt 21 ct) (hot : own bt = 6) (ht : ∀ p, p < 16384 → ct p = .int .i32 (t p)) (hT : TOK 16384 V.temps.length (fun i => mixP (V.temps.getD i (ETemp.new 0 0)).acct (V.temps.getD i (ETemp.new 0 0)).key % 16384) t) (hd : d < 16384) (hfree : t ((mixP i k % 16384 + d) % 16384) = -1) (hbusy : ∀ e, e < d → 0 ≤ t ((mixP i k % 16384 + e) % 16384))
    {wb : World} (hE : Ext w wb) (hTag : ∀ cap, c 27017 = .slice (some ⟨b, 0, none⟩) V.temps.length cap → own b = 5) (hRows : ∀ (i : Nat) (h : i < V.temps.length), TempC c2 (i * 9) V.temps[i])
    (hG : Grown wb 439 9 (c 27017) V.temps.length b c2 (tempZ i k).toList v' W b' c')
    (hg5 : Mod (· = g) W W5) (hB5 : Blk W5 g 27024 105 (updv c 27017 v')) (hm6 : Mod (· = bt) W5 W6) (hB6 : Blk W6 bt capt 21 (updv ct ((mixP i k % 16384 + d) % 16384) (.int .i32 (V.temps.length : Nat)))) :
    ∃ own', VRep own' W6 g (updv c 27017 v') (V.needT i k) ∧ VStep own w c own' W6 (updv c 27017 v') := by
  have hP : (mixP i k % 16384 + d) % 16384 < 16384 := Nat.mod_lt _ (by decide)
  obtain ⟨P, hPe⟩ : ∃ P, P = (mixP i k % 16384 + d) % 16384 := ⟨_, rfl⟩
  rw [← hPe] at hP hB6
  have hgb : b' ≠ g ∧ (b' < w.heap.size → own b' = 5) ∧ Mod (fun x => x = g ∨ own x = 5) w W := by
    rcases hG.how with ⟨e, ⟨cp, hc⟩, hm⟩ | ⟨e, hx⟩
    · have h1 := hTag cp hc
      have hne : b ≠ g := fun e2 => by have := h.tag; rw [← e2, h1] at this; omega
      exact ⟨by rw [e]; exact hne, fun _ => by rw [e]; exact h1, (hE.mod _).trans' hm (fun x hx => Or.inl (Or.inr (by rw [hx]; exact h1)))⟩
    · have hs := hE.size
      have hg := h.blk.lt
      exact ⟨by rw [e]; omega, fun h1 => by rw [e] at h1; omega, (hE.mod _).trans_ext hx⟩
  obtain ⟨hbg, hbt5, hMW⟩ := hgb
  have hb'W : b' < W.heap.size := by
    rcases hG.arn with ⟨q, _⟩ | ⟨cp, _, _, _, q⟩
    · omega
    · exact q.lt
  obtain ⟨own', hown⟩ : ∃ own' : Nat → Nat, own' = fun x => if x = b' then 5 else own x := ⟨_, rfl⟩
  have ho1 : own' b' = 5 := by rw [hown]; simp
  have ho2 : ∀ x, x ≠ b' → own' x = own x := fun x hx => by rw [hown]; simp [hx]
  have hkeep : ∀ x, x < w.heap.size → own' x = own x := fun x hx => by
    by_cases e : x = b'
    · subst e; rw [ho1, hbt5 hx]
    · exact ho2 x e
  have hM5 : Mod (fun x => x = g ∨ own x = 5) w W5 := hMW.trans (hg5.sub (fun x hx => Or.inl hx))
  have K1 : Keep own own' g 5 w W5 := ⟨hkeep, hM5, h.tag, by decide⟩
  have hog : own' g = 8 := by rw [hkeep g h.blk.lt]; exact h.tag
  have hot' : own' bt = 6 := by rw [hkeep bt hbt.lt]; exact hot
  have K2 : Keep own' own' g 6 W5 W6 := ⟨fun _ _ => rfl, hm6.sub (fun x hx => Or.inr (by rw [hx]; exact hot')), hog, by decide⟩
  have hgt : g ≠ bt := fun q => by rw [← q, h.tag] at hot; omega
  have e2 : V.needT i k = { V with temps := V.temps ++ [ETemp.new i k] } := by unfold EV.needT; rw [hj]; simp
  refine ⟨own', ?_, hkeep, fun x hx => updv_ne _ _ (by omega), ?_⟩
  · rw [e2]
    refine VRep.genT h (Or.inl rfl) (Or.inr rfl) K1 K2 (fun x hx => ?_) (hB5.mod hm6 hgt) (fun x h1 h2 h3 h4 => updv_ne _ _ h2) (by rw [← e2]; exact needT_wf h.wf hi k) (by simp; omega) (by simp) ?_ ?_
    · have h1 := hm6.size
      have h2 := hg5.size
      rw [ho2 x (by omega)]
      exact h.fresh x (by have := hMW.size; omega)
    · rw [updv_same]
      have hp : GRow 439 9 TempC (Ow own' 5) W v' (V.temps ++ [ETemp.new i k]) :=
        GRow.push hG hRows (fun c c' o y hc hy => temp_move hc hy) (fun hnew => tempZ_new (by have := h.nA; omega) hk hnew) ho1
      exact hp.mono (fun _ _ _ k => k) (fun _ _ k => k) (fun b n t c hb hT => (hb.mod hg5 (fun e => by unfold Ow at hT; rw [e, hog] at hT; omega)).mod hm6 (fun e => by unfold Ow at hT; rw [e, hot'] at hT; omega))
    · refine ⟨fun p => if p = P then (V.temps.length : Int) else t p, ⟨bt, capt, _, by rw [updv_ne _ _ (by decide)]; exact htv, hcapt, hB6, hot', fun p hp => ?_⟩, ?_⟩
      · show updv ct P _ p = .int .i32 (if p = P then _ else t p)
        by_cases e : p = P
        · subst e; rw [updv_same, if_pos rfl]
        · rw [updv_ne _ _ e, if_neg e]; exact ht p hp
      · have hT' : TOK 16384 V.temps.length (fun j => mixP ((V.temps ++ [ETemp.new i k]).getD j (ETemp.new 0 0)).acct ((V.temps ++ [ETemp.new i k]).getD j (ETemp.new 0 0)).key % 16384) t := hT.congr (fun j hj => by
          simp only [List.getD_eq_getElem?_getD]; rw [List.getElem?_append_left hj])
        have hme : mixP ((V.temps ++ [ETemp.new i k]).getD V.temps.length (ETemp.new 0 0)).acct ((V.temps ++ [ETemp.new i k]).getD V.temps.length (ETemp.new 0 0)).key % 16384 = mixP i k % 16384 := by simp [ETemp.new]
        have := hT'.put hd (by simp only [hme]; exact hfree) (fun e he => by simp only [hme]; exact hbusy e he)
        simp only [hme, ← hPe] at this
        simpa using this
  · refine (hM5.sub (T := fun b => (own b ≠ 0 ∧ own b ≠ 9) ∧ own b ≠ 7) (fun x hx => ?_)).trans' hm6 (fun x hx => Or.inl (by rw [hx, hot]; exact ⟨by decide, by decide⟩))
    rcases hx with e | e
    · rw [e, h.tag]; exact ⟨by decide, by decide⟩
    · rw [e]; exact ⟨by decide, by decide⟩
/-- The table of transient slots is laid. -/
theorem tab_new {own : Nat → Nat} {w W : World} {g B : Nat} {c c6 : Nat → Value} {V : EV} (h : VRep own w g c V) (hB0 : w.heap.size ≤ B) (ht : V.temps = []) (hm : Mod (· = g) w W) (hBg : Blk W g 27024 105 (updv c 27018 (.slice (some ⟨B, 0, none⟩) 16384 16384))) (hBB : Blk W B 16384 21 c6) (hc : ∀ p, p < 16384 → c6 p = .int .i32 (-1)) :
    ∃ own', own' B = 6 ∧ VRep own' W g (updv c 27018 (.slice (some ⟨B, 0, none⟩) 16384 16384)) V ∧ VStep own w c own' W (updv c 27018 (.slice (some ⟨B, 0, none⟩) 16384 16384)) := by
  obtain ⟨own', hown⟩ : ∃ own' : Nat → Nat, own' = fun x => if x = B then 6 else own x := ⟨_, rfl⟩
  have ho1 : own' B = 6 := by rw [hown]; simp
  have ho2 : ∀ x, x ≠ B → own' x = own x := fun x hx => by rw [hown]; simp [hx]
  have hkeep : ∀ x, x < w.heap.size → own' x = own x := fun x hx => ho2 x (by omega)
  have K1 : Keep own own' g 6 w W := ⟨hkeep, hm.sub (fun x hx => Or.inl hx), h.tag, by decide⟩
  have hog : own' g = 8 := by rw [hkeep g h.blk.lt]; exact h.tag
  have K2 : Keep own' own' g 6 W W := ⟨fun _ _ => rfl, Mod.refl _ _, hog, by decide⟩
  have e2 : V = { V with temps := V.temps } := rfl
  refine ⟨own', ho1, ?_, hkeep, fun x hx => updv_ne _ _ (by omega), hm.sub (fun x hx => by rw [hx, h.tag]; exact ⟨by decide, by decide⟩)⟩
  rw [e2]
  refine VRep.genT h (Or.inr rfl) (Or.inr rfl) K1 K2 (fun x hx => ?_) hBg (fun x h1 h2 h3 h4 => updv_ne _ _ h3) h.wf h.nT (Nat.le_refl _) ?_ ⟨fun _ => -1, ⟨B, 16384, c6, updv_same _ _ _, Nat.le_refl _, hBB, ho1, hc⟩, ?_⟩
  · have := hBB.lt
    rw [ho2 x (by omega)]
    exact h.fresh x (Nat.le_trans hm.size hx)
  · rw [updv_ne _ _ (by decide)]
    exact K1.row h.temps (fun _ _ _ k => k) (by decide) (by decide)
  · rw [ht]
    exact ⟨fun p _ => Or.inl rfl, fun p q _ _ h0 _ => by omega, fun i hi => absurd hi (Nat.not_lt_zero _)⟩
end Go.Proofs.YgvahwGreat
