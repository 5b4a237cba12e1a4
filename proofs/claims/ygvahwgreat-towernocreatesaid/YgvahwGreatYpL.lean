import Derived.Test.YgvahwGreatYpE
import Derived.Test.YgvahwGreatAbs
namespace Go.Proofs.YgvahwGreat
open Go.RowKit
theorem val_take_mod (l : List Nat) (hd : Digits l) (k : Nat) : val (l.take k) = val l % 256 ^ k := by
  by_cases hk : k ≤ l.length
  · have e : val l = val (l.take k) + 256 ^ k * val (l.drop k) := by
      have := val_append (l.take k) (l.drop k)
      rw [List.take_append_drop, List.length_take, Nat.min_eq_left hk] at this
      exact this
    have hlt := val_lt (l.take k) (fun d h => hd d (List.mem_of_mem_take h))
    rw [List.length_take, Nat.min_eq_left hk] at hlt
    rw [e, Nat.add_mul_mod_self_left, Nat.mod_eq_of_lt hlt]
  · rw [List.take_of_length_le (by omega), Nat.mod_eq_of_lt]
    exact Nat.lt_of_lt_of_le (val_lt l hd) (Nat.pow_le_pow_right (by decide) (by omega))
theorem P32 : P256 = 256 ^ 32 := P256_eq
section
variable {O : Nat → Prop} {w : World} {v u : Value} {x y : Nat}
theorem ySmall (h : NV O w v x) : Calls Hvah.prog 34 #[v] w fun e w' => e = .returned (.int .u64 (if x < 18446744073709551616 then x else 0 : Nat)) ∧ w' = w := by
  have H := nU64 O v x w h
  generalize (if x < 18446744073709551616 then x else 0 : Nat) = z at *
  go_enter Hvah.func34, Hvah.ntmps34
  go_wp2_with (go_at_call 89; refine H.mono ?_; rintro e w1 ⟨rfl, rfl⟩)
  go_ret
  exact ⟨rfl, rfl⟩
theorem yIsNeg (h : NV O w v x) : Calls Hvah.prog 350 #[v] w fun e w' => e = .returned (.bool (x.testBit 255)) ∧ w' = w := by
  obtain ⟨l, hl, rfl⟩ := h
  have H := bit_nl O v l 255 w hl (by decide)
  generalize (val l).testBit 255 = bb at *
  go_enter Hvah.func350, Hvah.ntmps350
  go_wp2_with (go_at_call 339; refine H.mono ?_; rintro e w1 ⟨rfl, rfl⟩)
  go_ret
  exact ⟨rfl, rfl⟩
set_option maxRecDepth 100000 in
theorem yWrapped (hO : Small O w) (h : NV O w v x) : Calls Hvah.prog 346 #[v] w fun e w' => ∃ r, e = .returned r ∧ NV O w' r (x % P256) ∧ Ext w w' := by
  obtain ⟨l, ⟨o, c, rfl, hlc, hcm, hb⟩, rfl⟩ := h
  have hll : (l.length : Int) ≤ 140737488355328 := by omega
  by_cases hs : l.length ≤ 32
  · have e1 : val l % P256 = val l := by
      rw [P32]
      exact Nat.mod_eq_of_lt (Nat.lt_of_lt_of_le (val_lt l hb.lt) (Nat.pow_le_pow_right (by decide) hs))
    have hm : min (l.length : Int) 32 = l.length := by omega
    have HN := nNorm O (.slice o l.length c) (val l) w hO ⟨l, ⟨o, c, rfl, hlc, hcm, hb⟩, rfl⟩
    go_enter Hvah.func346, Hvah.ntmps346
    go_wp2_with (go_at_call 132; refine HN.mono ?_; rintro e w1 ⟨r, rfl, hr, he⟩)
    go_ret
    exact ⟨r, rfl, by rw [e1]; exact hr.nv, he⟩
  · have hm : min (l.length : Int) 32 = 32 := by omega
    have hc32 : (32 : Int) ≤ c := by omega
    have hlen : (l.take 32).length = 32 := by simp; omega
    have HN := nNorm O (.slice o 32 c) (val (l.take 32)) w hO ⟨l.take 32, ⟨o, c, by rw [hlen], by omega, hcm, hb.take 32⟩, rfl⟩
    go_enter Hvah.func346, Hvah.ntmps346
    go_wp2_with (go_at_call 132; refine HN.mono ?_; rintro e w1 ⟨r, rfl, hr, he⟩)
    go_ret
    exact ⟨r, rfl, by have := hr.nv; rwa [val_take_mod l hb.lt, ← P32] at this, he⟩
/-- -n modulo 2^256. -/
theorem yNegated (hO : Small O w) (h : NV O w v x) : Calls Hvah.prog 347 #[v] w fun e w' => ∃ r, e = .returned r ∧ NV O w' r (aneg x) ∧ Ext w w' := by
  have hE := Ext.refl w
  have HP := fun W (hW : Ext w W) => pow2_nl O 256 W (hO.ext hW) (by decide)
  go_enter Hvah.func347, Hvah.ntmps347
  go_wp2_with (first
    | (go_at_call 405; refine (HP _ hE).mono ?_; rintro e w1 ⟨r, l, rfl, hr, hl, he⟩; replace hE := hE.trans he; have hr2 : NV O w1 r (2 ^ 256) := ⟨l, hr, hl⟩)
    | (go_at_call 134; refine (nSub O r v (2 ^ 256) x _ (hO.ext hE) hr2 (h.ext hE)).mono ?_; rintro e w2 ⟨d, rfl, hd, he2⟩; replace hE := hE.trans he2)
    | (go_at_call 346; refine (yWrapped (hO.ext hE) hd).mono ?_; rintro e w3 ⟨z, rfl, hz, he3⟩; replace hE := hE.trans he3))
  go_ret
  exact ⟨z, rfl, by rw [← P2] at hz; exact hz, hE⟩
theorem yWithSign (hO : Small O w) (h : NV O w v x) (b : Bool) : Calls Hvah.prog 349 #[v, .bool b] w fun e w' => ∃ r, e = .returned r ∧ NV O w' r (asg x b) ∧ Ext w w' := by
  cases b
  · have HN := nNorm O v x w hO h
    go_enter Hvah.func349, Hvah.ntmps349
    go_wp2_with (go_at_call 132; refine HN.mono ?_; rintro e w1 ⟨r, rfl, hr, he⟩)
    go_ret
    exact ⟨r, rfl, hr.nv, he⟩
  · have HN := yNegated hO h
    go_enter Hvah.func349, Hvah.ntmps349
    go_wp2_with (go_at_call 347; refine HN.mono ?_; rintro e w1 ⟨r, rfl, hr, he⟩)
    go_ret
    exact ⟨r, rfl, hr, he⟩
theorem yMagnitude (hO : Small O w) (h : NV O w v x) : Calls Hvah.prog 348 #[v] w fun e w' => ∃ r, e = .returned r ∧ NV O w' r (asg x (x.testBit 255)) ∧ Ext w w' := by
  have H1 := yIsNeg h
  have H2 := yWithSign hO h (x.testBit 255)
  generalize x.testBit 255 = bb at *
  go_enter Hvah.func348, Hvah.ntmps348
  go_wp2_with (first | (go_at_call 350; refine H1.mono ?_; rintro e w1 ⟨rfl, rfl⟩) | (go_at_call 349; refine H2.mono ?_; rintro e w2 ⟨r, rfl, hr, he⟩))
  go_ret
  exact ⟨r, rfl, hr, he⟩
theorem ySignedBelow (h : NV O w v x) (g : NV O w u y) : Calls Hvah.prog 354 #[v, u] w fun e w' => e = .returned (.bool (if x.testBit 255 != y.testBit 255 then x.testBit 255 else decide (x < y))) ∧ Ext w w' := by
  have H1 := yIsNeg h
  have H2 := yIsNeg g
  have H3 := nCmp O v u x y w h g
  generalize x.testBit 255 = b1 at *
  generalize y.testBit 255 = b2 at *
  have hc : (cmpI x y < 0) = (x < y) := by
    apply propext
    unfold cmpI
    split
    · simp_all
    · split <;> simp_all <;> omega
  cases b1 <;> cases b2
  all_goals
    go_enter Hvah.func354, Hvah.ntmps354
    go_wp2_with (first | (go_at_call_of 350 v; refine H1.mono ?_; rintro e w1 ⟨rfl, rfl⟩) | (go_at_call_of 350 u; refine H2.mono ?_; rintro e w1 ⟨rfl, rfl⟩) | (go_at_call 130; refine H3.mono ?_; rintro e w3 ⟨rfl, hd⟩; have he := drew_ext hd; clear hd))
    go_ret
    first
      | exact ⟨rfl, Ext.refl _⟩
      | exact ⟨by simp, he⟩
theorem yCreates (k : Nat) (hk : k < 256) : Calls Hvah.prog 141 #[.int .u8 k] w fun e w' => e = .returned (.bool (createsA k)) ∧ w' = w := by
  by_cases h1 : k = 1
  · subst h1
    go_enter Hvah.func141, Hvah.ntmps141
    go_wp2
    go_ret
    exact ⟨rfl, rfl⟩
  · by_cases h2 : k = 5
    · subst h2
      go_enter Hvah.func141, Hvah.ntmps141
      go_wp2
      go_ret
      exact ⟨rfl, rfl⟩
    · by_cases h3 : k = 6
      · subst h3
        go_enter Hvah.func141, Hvah.ntmps141
        go_wp2
        go_ret
        exact ⟨rfl, rfl⟩
      · have hc : createsA k = false := by simp [createsA, h1, h2, h3]
        have i1 : ((k : Int) == 1) = false := by simp; omega
        have i2 : ((k : Int) == 5) = false := by simp; omega
        have i3 : ((k : Int) == 6) = false := by simp; omega
        rw [hc]
        go_enter Hvah.func141, Hvah.ntmps141
        go_wp2
        go_ret
        exact ⟨rfl, rfl⟩
set_option maxRecDepth 100000 in
theorem yAccess {Y n : Nat} {t : TypeId} {c : Nat → Value} (hB : Blk w Y n t c) (hn : 8 ≤ n) (hO : Small O w) (l : List Nat) (h : AddrL O w (c 1) l) (a : Nat) (ha : a < 2 ^ 160) (hlen : l.length ≤ 100000) :
    Calls Hvah.prog 342 #[.pointer (some ⟨Y, 0, none⟩), .agg (av a)] w fun e w' => ∃ r, e = .returned r ∧ NV O w' r (if a ∈ l then 100 else 2600) ∧ Ext w w' := by
  have hE0 : Ext w (w.alloc (.cells (av a) 31)) := (Ext.refl w).alloc _ _
  have hsa : (av a).size = 20 := av_size ha
  have HA := boxes1 w (av a) 31 _ (Ext.refl _)
  have HW := yIsWarm (hB.ext hE0) hn l (h.ext hE0 (fun _ _ _ k => k)) a ha hlen
  have HN := fun W (hW : Ext w W) => nNum O 100 W (hO.ext hW) (by decide)
  have HM := fun W (hW : Ext w W) => nNum O 2600 W (hO.ext hW) (by decide)
  by_cases hin : a ∈ l
  · rw [decide_eq_true hin] at HW
    rw [if_pos hin]
    go_enter Hvah.func342, Hvah.ntmps342
    go_wp2_with (first | ((with_reducible (refine Veil.out ?_; apply wl_box)); (case hx => rfl)) | ((with_reducible (refine Veil.out ?_; apply wl_loadR rt25)); (case hx => rfl); (case hr => exact HA); (case hn => exact hsa)) | (go_at_call 402; refine HW.mono ?_; rintro e w1 ⟨rfl, he⟩) | (go_at_call 42; refine (HN _ (hE0.trans he)).mono ?_; rintro e w2 ⟨r, rfl, hr, he2⟩))
    go_ret
    exact ⟨r, rfl, hr, (hE0.trans he).trans he2⟩
  · rw [decide_eq_false hin] at HW
    rw [if_neg hin]
    go_enter Hvah.func342, Hvah.ntmps342
    go_wp2_with (first | ((with_reducible (refine Veil.out ?_; apply wl_box)); (case hx => rfl)) | ((with_reducible (refine Veil.out ?_; apply wl_loadR rt25)); (case hx => rfl); (case hr => exact HA); (case hn => exact hsa)) | (go_at_call 402; refine HW.mono ?_; rintro e w1 ⟨rfl, he⟩) | (go_at_call 42; refine (HM _ (hE0.trans he)).mono ?_; rintro e w2 ⟨r, rfl, hr, he2⟩))
    go_ret
    exact ⟨r, rfl, hr, (hE0.trans he).trans he2⟩
theorem yTruth (b : Bool) (hO : Small O w) : Calls Hvah.prog 353 #[.bool b] w fun e w' => ∃ r, e = .returned r ∧ NV O w' r (b2n b) ∧ Ext w w' := by
  cases b
  · go_enter Hvah.func353, Hvah.ntmps353
    go_wp2
    go_ret
    exact ⟨_, rfl, ⟨[], NL.nil, rfl⟩, Ext.refl _⟩
  · go_enter Hvah.func353, Hvah.ntmps353
    go_wp2
    go_ret
    refine ⟨_, rfl, ⟨[1], ⟨_, 1, rfl, by simp, by decide, by simp, fun _ => ⟨w.heap.size, 0, rfl, fun q => Nat.lt_irrefl _ (hO _ q), by simp, fun i hi => ?_⟩⟩, rfl⟩, (Ext.refl _).alloc _ _⟩
    have : i = 0 := by simp at hi; omega
    subst this
    have hh : (w.alloc (.cells #[.int .u8 1] 5)).heap[w.heap.size]? = some (.cells #[.int .u8 1] 5 (0, 0)) := heap_new _ _
    simp only [World.cell?, hh]
    rfl
end
end Go.Proofs.YgvahwGreat
