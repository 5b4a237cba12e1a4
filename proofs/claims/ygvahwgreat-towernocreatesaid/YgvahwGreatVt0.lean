import Derived.Test.YgvahwGreatVaP
import Derived.Test.YgvahwGreatYW
namespace Go.Proofs.YgvahwGreat
/-- An account that is not shown. -/
def EAcct.bare (x : EAcct) : Bool := decide (x.nonce = 0 ∧ x.bal = 0 ∧ x.code = [])
def eA (la : List EAcct) (i : Nat) : EAcct := la.getD i (EAcct.new 0)
def eS (ls : List ESlot) (i : Nat) : ESlot := ls.getD i (ESlot.new 0 0)
theorem eA_get {la : List EAcct} {i : Nat} (h : i < la.length) : eA la i = la[i] := by unfold eA List.getD; rw [List.getElem?_eq_getElem h]; rfl
theorem eS_get {ls : List ESlot} {i : Nat} (h : i < ls.length) : eS ls i = ls[i] := by unfold eS List.getD; rw [List.getElem?_eq_getElem h]; rfl
/-- The accounts that are shown, as keys. -/
def kA (la : List EAcct) (n : Nat) : List SK := (List.range n).filterMap fun i => if (eA la i).bare then none else some ⟨0, (eA la i).addr, i⟩
theorem kA_no {la : List EAcct} {i : Nat} (h : (eA la i).bare = true) : kA la (i + 1) = kA la i := by
  unfold kA
  rw [List.range_succ, List.filterMap_append]
  simp [h]
theorem kA_yes {la : List EAcct} {i : Nat} (h : (eA la i).bare = false) : kA la (i + 1) = kA la i ++ [⟨0, (eA la i).addr, i⟩] := by
  unfold kA
  rw [List.range_succ, List.filterMap_append]
  simp [h]
theorem kA_len (la : List EAcct) (n : Nat) : (kA la n).length ≤ n := by
  unfold kA
  exact Nat.le_trans (List.length_filterMap_le _ _) (by simp)
theorem kA_mem {la : List EAcct} {n : Nat} {x : SK} : x ∈ kA la n ↔ x.k < n ∧ (eA la x.k).bare = false ∧ x.r = 0 ∧ x.x = (eA la x.k).addr := by
  unfold kA
  rw [List.mem_filterMap]
  constructor
  · rintro ⟨i, hi, e⟩
    split at e
    · cases e
    · rename_i q
      injection e with e
      subst e
      exact ⟨List.mem_range.1 hi, by simpa using q, rfl, rfl⟩
  · rintro ⟨h1, h2, h3, h4⟩
    refine ⟨x.k, List.mem_range.2 h1, ?_⟩
    rw [if_neg (by rw [h2]; decide)]
    congr 1
    cases x
    simp_all
theorem kA_k (la : List EAcct) (n : Nat) : (kA la n).Pairwise fun a b => a.k ≠ b.k := by
  unfold kA
  refine List.Pairwise.filterMap _ (R := fun a b : Nat => a < b) ?_ List.pairwise_lt_range
  intro a b hab x hx y hy
  split at hx
  · cases hx
  split at hy
  · cases hy
  injection hx with hx
  injection hy with hy
  rw [← hx, ← hy]
  show a ≠ b
  omega
/-- The rank of an account behind n laid ones. -/
def rkF (A : List SK) : Nat → Nat → Nat
  | 0 => fun _ => 0
  | r + 1 => up (rkF A r) (A.getD r ⟨0, 0, 0⟩).k (r + 1)
theorem gd_get {A : List SK} {r : Nat} (h : r < A.length) : A.getD r ⟨0, 0, 0⟩ = A[r] := by unfold List.getD; rw [List.getElem?_eq_getElem h]; rfl
theorem rk_inv {A : List SK} {i : Nat} : ∀ n, n ≤ A.length → 0 < rkF A n i → ∃ r, ∃ h : r < A.length, r < n ∧ A[r].k = i ∧ rkF A n i = r + 1
  | 0, _, h => absurd h (by simp [rkF])
  | n + 1, hn, h => by
    unfold rkF up at h ⊢
    rw [gd_get hn] at h ⊢
    by_cases e : i = A[n].k
    · rw [if_pos e]
      exact ⟨n, hn, Nat.lt_succ_self _, e.symm, rfl⟩
    · rw [if_neg e] at h ⊢
      obtain ⟨r, h1, h2, h3, h4⟩ := rk_inv n (by omega) h
      exact ⟨r, h1, by omega, h3, h4⟩
theorem rk_at {A : List SK} (hk : A.Pairwise fun a b => a.k ≠ b.k) {r : Nat} (h : r < A.length) : ∀ n, r < n → n ≤ A.length → rkF A n A[r].k = r + 1
  | 0, h1, _ => absurd h1 (Nat.not_lt_zero _)
  | n + 1, h1, hn => by
    unfold rkF up
    rw [gd_get hn]
    by_cases e : r = n
    · subst e; rw [if_pos rfl]
    · have := List.pairwise_iff_getElem.1 hk r n h hn (by omega)
      rw [if_neg this]
      exact rk_at hk h n (by omega) (by omega)
theorem rk_le {A : List SK} {i : Nat} {n : Nat} (hn : n ≤ A.length) : rkF A n i ≤ n := by
  rcases Nat.eq_zero_or_pos (rkF A n i) with h | h
  · omega
  · obtain ⟨r, _, h2, _, h4⟩ := rk_inv n hn h
    omega
/-- The slots that are shown, as keys. -/
def kS (rk : Nat → Nat) (ls : List ESlot) (n : Nat) : List SK := (List.range n).filterMap fun i => if 0 < rk (eS ls i).acct ∧ (eS ls i).val ≠ 0 then some ⟨rk (eS ls i).acct, (eS ls i).key, i⟩ else none
theorem kS_no {rk : Nat → Nat} {ls : List ESlot} {i : Nat} (h : ¬ (0 < rk (eS ls i).acct ∧ (eS ls i).val ≠ 0)) : kS rk ls (i + 1) = kS rk ls i := by
  unfold kS
  rw [List.range_succ, List.filterMap_append, List.filterMap_cons, if_neg h]
  simp
theorem kS_yes {rk : Nat → Nat} {ls : List ESlot} {i : Nat} (h : 0 < rk (eS ls i).acct ∧ (eS ls i).val ≠ 0) : kS rk ls (i + 1) = kS rk ls i ++ [⟨rk (eS ls i).acct, (eS ls i).key, i⟩] := by
  unfold kS
  rw [List.range_succ, List.filterMap_append, List.filterMap_cons, if_pos h]
  simp
theorem kS_len (rk : Nat → Nat) (ls : List ESlot) (n : Nat) : (kS rk ls n).length ≤ n := by
  unfold kS
  exact Nat.le_trans (List.length_filterMap_le _ _) (by simp)
theorem kS_mem {rk : Nat → Nat} {ls : List ESlot} {n : Nat} {x : SK} : x ∈ kS rk ls n ↔ x.k < n ∧ 0 < rk (eS ls x.k).acct ∧ (eS ls x.k).val ≠ 0 ∧ x.r = rk (eS ls x.k).acct ∧ x.x = (eS ls x.k).key := by
  unfold kS
  rw [List.mem_filterMap]
  constructor
  · rintro ⟨i, hi, e⟩
    split at e
    · rename_i q
      injection e with e
      subst e
      exact ⟨List.mem_range.1 hi, q.1, q.2, rfl, rfl⟩
    · cases e
  · rintro ⟨h1, h2, h3, h4, h5⟩
    refine ⟨x.k, List.mem_range.2 h1, ?_⟩
    rw [if_pos ⟨h2, h3⟩]
    congr 1
    cases x
    simp_all
theorem kS_k (rk : Nat → Nat) (ls : List ESlot) (n : Nat) : (kS rk ls n).Pairwise fun a b => a.k ≠ b.k := by
  unfold kS
  refine List.Pairwise.filterMap _ (R := fun a b : Nat => a < b) ?_ List.pairwise_lt_range
  intro a b hab x hx y hy
  split at hx
  · split at hy
    · injection hx with hx
      injection hy with hy
      rw [← hx, ← hy]
      show a ≠ b
      omega
    · cases hy
  · cases hx
/-- The slots of one rank. -/
def slE (ls : List ESlot) (S : List SK) (r : Nat) : List (Nat × Nat) := (S.filter fun s => decide (s.r = r)).map fun s => ((eS ls s.k).key, (eS ls s.k).val)
/-- The account of a rank, with the slots that the keys S show. -/
def acE (la : List EAcct) (ls : List ESlot) (A S : List SK) (r : Nat) : YA := ⟨(eA la (A.getD r ⟨0, 0, 0⟩).k).addr, (eA la (A.getD r ⟨0, 0, 0⟩).k).nonce, (eA la (A.getD r ⟨0, 0, 0⟩).k).bal, (eA la (A.getD r ⟨0, 0, 0⟩).k).code, slE ls S (r + 1)⟩
/-- What is exported. -/
def exE (la : List EAcct) (ls : List ESlot) (A S : List SK) : List YA := (List.range A.length).map (acE la ls A S)
theorem exE_mem {la : List EAcct} {ls : List ESlot} {A S : List SK} {y : YA} : y ∈ exE la ls A S ↔ ∃ r, r < A.length ∧ acE la ls A S r = y := by
  unfold exE
  rw [List.mem_map]
  simp [List.mem_range]
theorem perm_k {A B : List SK} (h : A.Perm B) (hb : B.Pairwise fun a b => a.k ≠ b.k) : A.Pairwise fun a b => a.k ≠ b.k := (h.pairwise_iff (fun h => h.symm)).2 hb
section
variable {V : EV} {A S : List SK}
theorem expE (hw : V.WF) (hA : A.Perm (kA V.accts V.accts.length)) (sA : A.Pairwise SKle) (hS : S.Perm (kS (rkF A A.length) V.slots V.slots.length)) (sS : S.Pairwise SKle) : ExpOf V.abs (exE V.accts V.slots A S) := by
  have hkA := perm_k hA (kA_k _ _)
  have hkS := perm_k hS (kS_k _ _ _)
  have mA : ∀ r (h : r < A.length), ∃ hk : A[r].k < V.accts.length, V.accts[A[r].k].bare = false ∧ A[r].r = 0 ∧ A[r].x = V.accts[A[r].k].addr := fun r h => by
    obtain ⟨h1, h2, h3, h4⟩ := kA_mem.1 (hA.mem_iff.1 (List.getElem_mem h))
    rw [eA_get h1] at h2 h4
    exact ⟨h1, h2, h3, h4⟩
  have mS : ∀ s, s ∈ S → ∃ hk : s.k < V.slots.length, ∃ r, ∃ h : r < A.length, A[r].k = V.slots[s.k].acct ∧ s.r = r + 1 ∧ V.slots[s.k].val ≠ 0 ∧ s.x = V.slots[s.k].key := fun s h => by
    obtain ⟨h1, h2, h3, h4, h5⟩ := kS_mem.1 (hS.mem_iff.1 h)
    rw [eS_get h1] at h2 h3 h4 h5
    obtain ⟨r, g1, g2, g3, g4⟩ := rk_inv _ (Nat.le_refl _) h2
    exact ⟨h1, r, g1, g3, by rw [h4, g4], h3, h5⟩
  have aE : ∀ r (h : r < A.length), (acE V.accts V.slots A S r).addr = A[r].x ∧ acE V.accts V.slots A S r = ⟨A[r].x, (V.acct A[r].x).nonce, (V.acct A[r].x).bal, (V.acct A[r].x).code, slE V.slots S (r + 1)⟩ ∧ V.ix A[r].x = some A[r].k := fun r h => by
    obtain ⟨h1, h2, h3, h4⟩ := mA r h
    have e : V.acct A[r].x = V.accts[A[r].k] := by
      unfold EV.acct
      rw [h4, look_getElem hw.a1 h1]; rfl
    have e2 : acE V.accts V.slots A S r = ⟨A[r].x, (V.acct A[r].x).nonce, (V.acct A[r].x).bal, (V.acct A[r].x).code, slE V.slots S (r + 1)⟩ := by
      unfold acE
      rw [gd_get h, eA_get h1, e, ← h4]
    refine ⟨by rw [e2], e2, ?_⟩
    unfold EV.ix
    rw [h4]
    exact ix_once hw.a1 h1
  have mL : ∀ r, r < A.length → ∀ p ∈ slE V.slots S (r + 1), ∃ s ∈ S, s.r = r + 1 ∧ ∃ hk : s.k < V.slots.length, p = (V.slots[s.k].key, V.slots[s.k].val) := fun r h p hp => by
    unfold slE at hp
    obtain ⟨s, h1, h2⟩ := List.mem_map.1 hp
    obtain ⟨h3, h4⟩ := List.mem_filter.1 h1
    obtain ⟨hk, _⟩ := mS s h3
    rw [eS_get hk] at h2
    exact ⟨s, h3, by simpa using h4, hk, h2.symm⟩
  have sr : ∀ r, Rise Prod.fst (slE V.slots S (r + 1)) := fun r => by
    unfold Rise slE
    rw [List.pairwise_map]
    have h1 : S.Pairwise fun a b => SKle a b ∧ a.k ≠ b.k := sS.and hkS
    refine ((h1.filter _).imp_of_mem ?_)
    intro s t hs ht hst
    obtain ⟨s1, s2⟩ := List.mem_filter.1 hs
    obtain ⟨t1, t2⟩ := List.mem_filter.1 ht
    obtain ⟨k1, r1, g1, g2, g3, g4, g5⟩ := mS s s1
    obtain ⟨k2, r2, f1, f2, f3, f4, f5⟩ := mS t t1
    have hs2 : s.r = r + 1 := by simpa using s2
    have ht2 : t.r = r + 1 := by simpa using t2
    show (eS V.slots s.k).key < (eS V.slots t.k).key
    rw [eS_get k1, eS_get k2]
    have hle := SKle.iff.1 hst.1
    obtain rfl : r1 = r2 := by omega
    rcases Nat.lt_or_ge V.slots[s.k].key V.slots[t.k].key with q | q
    · exact q
    · exfalso
      have ee : V.slots[s.k].key = V.slots[t.k].key := by omega
      have hc : ESlot.kc V.slots[s.k] = ESlot.kc V.slots[t.k] := by
        unfold ESlot.kc
        rw [ee, ← g2, ← f2]
      rcases Nat.lt_or_ge s.k t.k with q2 | q2
      · exact List.pairwise_iff_getElem.1 hw.s1 s.k t.k k1 k2 q2 hc
      · exact List.pairwise_iff_getElem.1 hw.s1 t.k s.k k2 k1 (by have := hst.2; omega) hc.symm
  refine ⟨?_, ?_, ?_, ?_, ?_⟩
  · unfold Rise exE
    rw [List.pairwise_map]
    refine (List.pairwise_lt_range (n := A.length)).imp_of_mem ?_
    intro i j hi hj hij
    have hi := List.mem_range.1 hi
    have hj := List.mem_range.1 hj
    rw [(aE i hi).1, (aE j hj).1]
    obtain ⟨i1, _, i3, i4⟩ := mA i hi
    obtain ⟨j1, _, j3, j4⟩ := mA j hj
    have hle := SKle.iff.1 (List.pairwise_iff_getElem.1 sA i j hi hj hij)
    rcases Nat.lt_or_ge A[i].x A[j].x with q | q
    · exact q
    · exfalso
      have ee : V.accts[A[i].k].addr = V.accts[A[j].k].addr := by omega
      have hne := List.pairwise_iff_getElem.1 hkA i j hi hj hij
      rcases Nat.lt_or_ge A[i].k A[j].k with q2 | q2
      · exact List.pairwise_iff_getElem.1 hw.a1 _ _ i1 j1 q2 ee
      · exact List.pairwise_iff_getElem.1 hw.a1 _ _ j1 i1 (by omega) ee.symm
  · intro x hx
    obtain ⟨r, h1, rfl⟩ := exE_mem.1 hx
    rw [(aE r h1).2.1]
    exact sr r
  · intro x hx s hs
    obtain ⟨r, h1, rfl⟩ := exE_mem.1 hx
    rw [(aE r h1).2.1] at hs
    obtain ⟨t, t1, t2, t3, rfl⟩ := mL r h1 s hs
    obtain ⟨_, _, _, _, _, g, _⟩ := mS t t1
    exact g
  · intro a
    constructor
    · intro q
      cases p : look EAcct.addr a V.accts with
      | none => simp [EV.abs, AW.empty, EV.acct, p, EAcct.new]
      | some x =>
        obtain ⟨x1, x2⟩ := look_some p
        obtain ⟨i, hi, rfl⟩ := List.mem_iff_getElem.1 x1
        have hb : V.accts[i].bare = true := by
          apply Decidable.byContradiction
          intro hne
          have hm : (⟨0, (eA V.accts i).addr, i⟩ : SK) ∈ A := hA.mem_iff.2 (kA_mem.2 ⟨hi, by show (eA V.accts i).bare = false; rw [eA_get hi]; simpa using hne, rfl, rfl⟩)
          obtain ⟨r, hr, e⟩ := List.mem_iff_getElem.1 hm
          refine look_none q (acE V.accts V.slots A S r) (exE_mem.2 ⟨r, hr, rfl⟩) ?_
          rw [(aE r hr).1, e]
          show (eA V.accts i).addr = a
          rw [eA_get hi]; exact x2
        have hx : V.acct a = V.accts[i] := by unfold EV.acct; rw [p]; rfl
        show decide ((V.acct a).nonce = 0 ∧ (V.acct a).bal = 0 ∧ (V.acct a).code = []) = true
        rw [hx]; exact hb
    · intro q
      cases p : look YA.addr a (exE V.accts V.slots A S) with
      | none => rfl
      | some y =>
        obtain ⟨y1, y2⟩ := look_some p
        obtain ⟨r, hr, rfl⟩ := exE_mem.1 y1
        obtain ⟨h1, h2, h3, h4⟩ := mA r hr
        rw [(aE r hr).1] at y2
        have hx : V.acct a = V.accts[A[r].k] := by unfold EV.acct; rw [← y2, h4, look_getElem hw.a1 h1]; rfl
        have q' : decide ((V.acct a).nonce = 0 ∧ (V.acct a).bal = 0 ∧ (V.acct a).code = []) = true := q
        rw [hx] at q'
        unfold EAcct.bare at h2
        rw [q'] at h2
        cases h2
  · intro x hx
    obtain ⟨r, hr, rfl⟩ := exE_mem.1 hx
    obtain ⟨_, e2, e3⟩ := aE r hr
    obtain ⟨h1, _, _, h4⟩ := mA r hr
    rw [e2]
    refine ⟨rfl, rfl, rfl, fun k => ?_⟩
    show ((look Prod.fst k (slE V.slots S (r + 1))).map Prod.snd).getD 0 = (V.sl A[r].x k).val
    unfold EV.sl
    rw [e3]
    show _ = ((look ESlot.kc (A[r].k, k) V.slots).getD (ESlot.new 0 k)).val
    have hno : ∀ p ∈ slE V.slots S (r + 1), p.1 = k → ∃ s, look ESlot.kc (A[r].k, k) V.slots = some s ∧ p.2 = s.val ∧ s.val ≠ 0 := fun p hp e => by
      obtain ⟨t, t1, t2, t3, rfl⟩ := mL r hr p hp
      obtain ⟨_, r2, g1, g2, g3, g4, _⟩ := mS t t1
      obtain rfl : r2 = r := by omega
      refine ⟨V.slots[t.k], ?_, rfl, g4⟩
      have := look_getElem hw.s1 t3
      rw [show ESlot.kc V.slots[t.k] = (A[r2].k, k) by unfold ESlot.kc; rw [← g2]; exact congrArg _ e] at this
      exact this
    cases p : look Prod.fst k (slE V.slots S (r + 1)) with
    | some y =>
      obtain ⟨y1, y2⟩ := look_some p
      obtain ⟨s, s1, s2, _⟩ := hno y y1 y2
      rw [s1]
      exact s2
    | none =>
      cases p2 : look ESlot.kc (A[r].k, k) V.slots with
      | none => rfl
      | some s =>
        show 0 = s.val
        apply Decidable.byContradiction
        intro hne
        obtain ⟨x1, x2⟩ := look_some p2
        obtain ⟨j, hj, rfl⟩ := List.mem_iff_getElem.1 x1
        have x3 : V.slots[j].acct = A[r].k := congrArg Prod.fst x2
        have x4 : V.slots[j].key = k := congrArg Prod.snd x2
        have hrk : rkF A A.length (eS V.slots j).acct = r + 1 := by rw [eS_get hj, x3]; exact rk_at hkA hr _ hr (Nat.le_refl _)
        have hm : (⟨r + 1, k, j⟩ : SK) ∈ S := hS.mem_iff.2 (kS_mem.2 ⟨hj, by show 0 < rkF A A.length (eS V.slots j).acct; rw [hrk]; omega, by show (eS V.slots j).val ≠ 0; rw [eS_get hj]; exact fun q => hne q.symm, by show r + 1 = rkF A A.length (eS V.slots j).acct; exact hrk.symm, by show k = (eS V.slots j).key; rw [eS_get hj]; exact x4.symm⟩)
        have hp : (k, V.slots[j].val) ∈ slE V.slots S (r + 1) := by
          unfold slE
          refine List.mem_map.2 ⟨⟨r + 1, k, j⟩, List.mem_filter.2 ⟨hm, by simp⟩, ?_⟩
          show ((eS V.slots j).key, (eS V.slots j).val) = _
          rw [eS_get hj, x4]
        exact look_none p _ hp rfl
end
end Go.Proofs.YgvahwGreat
