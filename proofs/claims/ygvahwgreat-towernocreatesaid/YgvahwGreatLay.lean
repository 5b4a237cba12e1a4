import Derived.Test.YgvahwGreatRowsA
namespace Go.Proofs.YgvahwGreat
open Go.RowKit
/-- r laid over zs from place off on. -/
def layA (zs : Array Value) (off : Nat) (r : Array Value) : Array Value := r.zipIdx.foldl (fun cs x => cs.setIfInBounds (off + x.2) x.1) zs
theorem lay_list (off : Nat) : ∀ (l : List Value) (k : Nat) (zs : Array Value), ∀ i, ((l.zipIdx k).foldl (fun cs x => cs.setIfInBounds (off + x.2) x.1) zs)[i]? = if off + k ≤ i ∧ i < off + k + l.length ∧ i < zs.size then l[i - (off + k)]? else zs[i]?
  | [], k, zs, i => by simp; omega
  | v :: l, k, zs, i => by
    rw [List.zipIdx_cons, List.foldl_cons, lay_list off l (k + 1) _ i]
    simp only [Array.size_setIfInBounds, List.length_cons]
    by_cases h : i = off + k
    · subst h
      rw [if_neg (by omega), Array.getElem?_setIfInBounds]
      by_cases h2 : off + k < zs.size
      · simp [h2]
      · simp [h2]
    · have e : (zs.setIfInBounds (off + k) v)[i]? = zs[i]? := by rw [Array.getElem?_setIfInBounds, if_neg (fun e => h e.symm)]
      rw [e]
      by_cases h2 : off + (k + 1) ≤ i ∧ i < off + (k + 1) + l.length ∧ i < zs.size
      · rw [if_pos h2, if_pos (by omega), show i - (off + k) = (i - (off + (k + 1))) + 1 by omega]; simp
      · rw [if_neg h2, if_neg (by omega)]
theorem layA_get (zs : Array Value) (off : Nat) (r : Array Value) (i : Nat) : (layA zs off r)[i]? = if off ≤ i ∧ i < off + r.size ∧ i < zs.size then r[i - off]? else zs[i]? := by
  unfold layA
  rw [← Array.foldl_toList, Array.toList_zipIdx]
  have := lay_list off r.toList 0 zs i
  simpa using this
theorem layA_size (zs : Array Value) (off : Nat) (r : Array Value) : (layA zs off r).size = zs.size := by
  unfold layA
  rw [← Array.foldl_toList]
  generalize r.zipIdx.toList = l
  induction l generalizing zs with
  | nil => rfl
  | cons x l ih => rw [List.foldl_cons, ih]; simp
theorem lay0_fold (zs r : Array Value) (n : Nat) (h : r.size = n) : Array.foldl (fun cs x => cs.setIfInBounds x.snd x.fst) zs r.zipIdx 0 n = layA zs 0 r := by
  subst h
  unfold layA
  simp
theorem layO_fold (zs r : Array Value) (off n : Nat) (h : r.size = n) : Array.foldl (fun cs x => cs.setIfInBounds (off + x.snd) x.fst) zs r.zipIdx 0 n = layA zs off r := by
  subst h
  unfold layA
  simp
theorem layA_full (zs r : Array Value) (h : r.size = zs.size) : layA zs 0 r = r := by
  apply Array.ext_getElem?
  intro i
  rw [layA_get]
  by_cases hi : i < r.size
  · rw [if_pos (by omega)]; simp
  · rw [if_neg (by omega), Array.getElem?_eq_none (by omega), Array.getElem?_eq_none (by omega)]
end Go.Proofs.YgvahwGreat
