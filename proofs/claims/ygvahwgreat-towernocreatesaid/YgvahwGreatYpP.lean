import Derived.Test.YgvahwGreatYpJ
import Derived.Test.YgvahwGreatYpK
namespace Go.Proofs.YgvahwGreat
open Go.RowKit
def acctL (l : List YA) (a : Nat) : YA := (look YA.addr a l).getD (YA.new a)
def setBalL (l : List YA) (a k : Nat) : List YA := insG YA.addr { acctL l a with bal := k } ({ acctL l a with bal := k } : YA).void l
theorem rng_ext {B : Nat} {cs : List Value} {a b : World} (h : B < a.heap.size ∧ a.rangeAt B 0 cs) (e : Ext a b) : B < b.heap.size ∧ b.rangeAt B 0 cs := ⟨Nat.lt_of_lt_of_le h.1 e.size, fun j u hu => (e.rc _ _ h.1).trans (h.2 j u hu)⟩
theorem rng_mod {B Y : Nat} {cs : List Value} {a b : World} (hy : B ≠ Y) (h : B < a.heap.size ∧ a.rangeAt B 0 cs) (e : Mod (· = Y) a b) : B < b.heap.size ∧ b.rangeAt B 0 cs := ⟨Nat.lt_of_lt_of_le h.1 e.size, fun j u hu => (e.cell (p := ⟨B, 0 + j, none⟩) h.1 hy).trans (h.2 j u hu)⟩
section
variable {O : Nat → Prop} {w : World} {Y n : Nat} {t : TypeId} {c : Nat → Value}
set_option maxRecDepth 100000 in
set_option maxHeartbeats 3200000 in
theorem yMove (hB : Blk w Y n t c) (hn : 8 ≤ n) (hO : Small O w) (hY : O Y) (l : List YA) (h : AccL O w (c 0) l) (a b : Nat) (ha : a < 2 ^ 160) (hb : b < 2 ^ 160) (kv : Value) (k : Nat) (hk : NV O w kv k) (hlen : l.length ≤ 90000) (hk0 : k ≠ 0) (hle : k ≤ (acctL l a).bal)
    (hlen2 : (setBalL l a ((acctL l a).bal - k)).length ≤ 100000) (hd1 : dl (acctL (setBalL l a ((acctL l a).bal - k)) b).bal ≤ 2000) (hd2 : dl k ≤ 2000) :
    Calls Hvah.prog 142 #[.pointer (some ⟨Y, 0, none⟩), .agg (av a), .agg (av b), kv] w fun e w' => ∃ v', e = .returned (.tuple #[]) ∧ Blk w' Y n t (updv c 0 v') ∧ AccL O w' v' (setBalL (setBalL l a ((acctL l a).bal - k)) b ((acctL (setBalL l a ((acctL l a).bal - k)) b).bal + k)) ∧ Mod (· = Y) w w' := by
  have hE0 : Ext w ((w.alloc (.cells (av a) 31)).alloc (.cells (av b) 31)) := ext2 ..
  have hsa : (av a).size = 20 := av_size ha
  have hsb : (av b).size = 20 := av_size hb
  have HB := boxes2 w (av a) (av b) 31 31
  have hYl := hB.lt
  have HAc := fun W (hW : Ext w W) => yAccount (hB.ext hW) hn l (h.ext hW (fun _ _ _ k => k.ext hW)) a ha (by omega)
  have HSb := fun W (hW : Ext w W) (uv : Value) (u : Nat) (hu : NV O W uv u) => ySetBalance (hB.ext hW) hn (hO.ext hW) hY l (h.ext hW (fun _ _ _ k => k.ext hW)) a ha uv u hu (by omega)
  have HI := fun W (hW : Ext w W) => nIsZero O kv k W (hk.ext hW)
  have hE := Ext.refl ((w.alloc (.cells (av a) 31)).alloc (.cells (av b) 31))
  rw [decide_eq_false hk0] at HI
  go_enter Hvah.func142, Hvah.ntmps142
  go_wp2_with (first | ((with_reducible (refine Veil.out ?_; apply wl_box)); (case hx => rfl)) | ((with_reducible (refine Veil.out ?_; apply wl_loadR rt25)); (case hx => rfl); (case hr => first | (with_reducible exact (HB _ hE).1) | (with_reducible exact (HB _ hE).2)); (case hn => first | exact hsa | exact hsb)) | (go_at_call 53; refine (HAc _ (hE0.trans hE)).mono ?_; rintro e w1 ⟨r, rfl, hr, he⟩; replace hE := hE.trans he; obtain ⟨u1, u2, u3, u4, rfl, hp⟩ := hr; have hfl := fun W => run_field1 fld2 ⟨_, under96⟩ (acR_at hp.aLt u1 u2 u3 u4).1 W) | (go_at_call 134; refine (nSub O u2 kv (acctL l a).bal k _ ((hO.ext hE0).ext hE) hp.bal (hk.ext (hE0.trans hE))).mono ?_; rintro e w2 ⟨d, rfl, hd, he2⟩; replace hE := hE.trans he2; clear hfl; rw [decide_eq_true hle]) | (go_at_call 88; refine (HI _ (hE0.trans hE)).mono ?_; rintro e w3 ⟨rfl, hd3⟩; have he3 := drew_ext hd3; clear hd3; replace hE := hE.trans he3; replace hd := hd.ext he3) | (go_at_call 59; refine (HSb _ (hE0.trans hE) d _ hd).mono ?_; rintro e w4 ⟨v4, rfl, hB4, hL4, hM4⟩))
  have hL1 : AccL O w4 (updv c 0 v4 0) (setBalL l a ((acctL l a).bal - k)) := by rw [updv_same]; exact hL4
  have hO4 : Small O w4 := fun q hq => Nat.lt_of_lt_of_le (hO q hq) (Nat.le_trans (hE0.trans hE).size hM4.size)
  have hk4 : NV O w4 kv k := (hk.ext (hE0.trans hE)).keep hM4 (fun q hq e => hq (e ▸ hY))
  have hr4 : w.heap.size + 1 < w4.heap.size ∧ w4.rangeAt (w.heap.size + 1) 0 (bcells (beL 20 b)) := by
    refine rng_mod (Y := Y) (by omega) ⟨?_, fun j u hu => (HB _ hE).2 j u (by simpa [av] using hu)⟩ hM4
    have := hE.size
    simp at this
    omega
  have HAc2 := fun W (hW : Ext w4 W) => yAccount (hB4.ext hW) hn _ (hL1.ext hW (fun _ _ _ k => k.ext hW)) b hb hlen2
  have HSb2 := fun W (hW : Ext w4 W) (uv : Value) (u : Nat) (hu : NV O W uv u) => ySetBalance (hB4.ext hW) hn (hO4.ext hW) hY _ (hL1.ext hW (fun _ _ _ k => k.ext hW)) b hb uv u hu hlen2
  have hMw : Mod (· = Y) w w4 := ((hE0.trans hE).mod _).trans hM4
  have hne : w.heap.size + 1 ≠ Y := by omega
  have hF := (Ext.refl w4).drew
  have hu25 := under25
  have hi25 : (Hvah.prog.info? 31).map (·.size) = some (bcells (beL 20 b)).length := by rw [rt25.size, bcells_length, len20 hb]
  clear HAc HSb HI HB hE he he2 he3 hd hp hM4 hB4 hL1 hL4
  obtain ⟨l1, hl1⟩ : ∃ l1, Hid (setBalL l a ((acctL l a).bal - k) = l1) := ⟨_, rfl⟩
  rw [hl1.out] at hlen2 hd1 HAc2 HSb2
  have hx : (look YA.addr b l1).getD (YA.new b) = acctL l1 b := rfl
  rw [hx] at HAc2 HSb2
  clear hx
  refine wp_region_held_drew (S := fun w' => w'.rangeAt (w.heap.size + 1) 0 (bcells (beL 20 b))) (by kernel_rfl) hr4.2 (fun hHeld => ?_)
  refine wpAnyH_take (i := 0) (v := ?_) rfl (by kernel_rfl) (by kernel_rfl) (by kernel_rfl) (fun _ _ _ h => h) (Or.inl ⟨by rfl, ?_⟩) hHeld ?_
  rotate_left
  · intro w hSw; go_simp; try with_reducible rfl
  change wpAnyH _ _ _ _ _ _ _ (Act.put _ (some 29) _) _
  simp only [Act.put, List.setIfInBounds_toArray, List.set_cons_zero, List.set_cons_succ]
  refine wpAnyH_take (i := 1) rfl (by kernel_rfl) (by kernel_rfl) (by kernel_rfl) (fun _ _ _ h => h) (yieldsIf_load_mid (by rfl) _ _ rfl _ _ rfl _ _ (fun w hSw => hSw) under25 rfl (by rw [rt25.size, bcells_length, len20 hb])) hHeld ?_
  change wpAnyH _ _ _ _ _ _ _ (Act.put _ (some 30) _) _
  simp only [Act.put, List.setIfInBounds_toArray, List.set_cons_zero, List.set_cons_succ]
  refine wpAnyH_take (i := 2) (v := ?_) rfl (by kernel_rfl) (by kernel_rfl) (by kernel_rfl) (fun _ _ _ h => h) (Or.inl ⟨by rfl, ?_⟩) hHeld ?_
  rotate_left
  · intro w hSw; go_simp; try with_reducible rfl
  change wpAnyH _ _ _ _ _ _ _ (Act.put _ (some 31) _) _
  simp only [Act.put, List.setIfInBounds_toArray, List.set_cons_zero, List.set_cons_succ]
  refine wpAnyH_take (i := 3) rfl (by kernel_rfl) (by kernel_rfl) (by kernel_rfl) (fun _ _ _ h => h) (yieldsIf_load_mid (by rfl) _ _ rfl _ _ rfl _ _ (fun w hSw => hSw) under25 rfl (by rw [rt25.size, bcells_length, len20 hb])) hHeld ?_
  change wpAnyH _ _ _ _ _ _ _ (Act.put _ (some 32) _) _
  simp only [Act.put, List.setIfInBounds_toArray, List.set_cons_zero, List.set_cons_succ]
  refine wpAnyH_take (i := 6) (v := ?_) rfl (by kernel_rfl) (by kernel_rfl) (by kernel_rfl) (fun _ _ _ h => h) (Or.inl ⟨by rfl, ?_⟩) hHeld ?_
  rotate_left
  · intro w hSw; go_simp; try with_reducible rfl
  change wpAnyH _ _ _ _ _ _ _ (Act.put _ (some 35) _) _
  simp only [Act.put, List.setIfInBounds_toArray, List.set_cons_zero, List.set_cons_succ]
  refine wpAnyH_ready (rs := [4]) (by kernel_rfl) (by simp) ?_
  refine AllReadyH.cons rfl (fun K hK => ?_) AllReadyH.nil
  go_simp
  go_at_call 53
  refine (HAc2 _ hF).mono ?_
  rintro e w5 ⟨r, rfl, hr, he5⟩
  have hr5 := rng_ext (rng_ext hr4 ((Ext.refl w4).drew)) he5
  replace hF := hF.trans he5
  obtain ⟨u1, u2, u3, u4, rfl, hp⟩ := hr
  have hfl := fun W => run_field1 fld2 ⟨_, under96⟩ (acR_at hp.aLt u1 u2 u3 u4).1 W
  refine hK.out _ _ ?_ (fun hHeld => ?_)
  · exact hr5.2
  clear hK K
  refine wpAnyH_take (i := 5) (v := ?_) rfl (by kernel_rfl) (by kernel_rfl) (by kernel_rfl) (fun _ _ _ h => h) (Or.inl ⟨by rfl, ?_⟩) hHeld ?_
  rotate_left
  · intro w hSw; go_simp; try with_reducible rfl
  change wpAnyH _ _ _ _ _ _ _ (Act.put _ (some 34) _) _
  simp only [Act.put, List.setIfInBounds_toArray, List.set_cons_zero, List.set_cons_succ]
  clear hfl
  refine wpAnyH_ready (rs := [7]) (by kernel_rfl) (by simp) ?_
  refine AllReadyH.cons rfl (fun K hK => ?_) AllReadyH.nil
  go_simp
  go_at_call 44
  refine (nAdd O u2 kv (acctL l1 b).bal k _ (hO4.ext hF) hp.bal (hk4.ext hF) hd1 hd2).mono ?_
  rintro e w6 ⟨d6, rfl, hd6, he6⟩
  have hr6 := rng_ext hr5 he6
  replace hF := hF.trans he6
  refine hK.out _ _ ?_ (fun hHeld => ?_)
  · exact hr6.2
  clear hK K
  refine wpAnyH_ready (rs := [8]) (by kernel_rfl) (by simp) ?_
  refine AllReadyH.cons rfl (fun K hK => ?_) AllReadyH.nil
  go_simp
  go_at_call 59
  refine (HSb2 _ hF d6 _ hd6).mono ?_
  rintro e w7 ⟨v7, rfl, hB7, hL7, hM7⟩
  refine hK.out _ _ ?_ (fun hHeld => ?_)
  · exact (rng_mod hne hr6 hM7).2
  clear hK K
  refine wpAnyH_done (by kernel_rfl) ?_ _
  go_wp2
  go_end0
  have hcc : updv (updv c 0 v4) 0 v7 = updv c 0 v7 := by funext j; unfold updv; split <;> rfl
  rw [hcc] at hB7
  rw [hl1.out]
  exact ⟨rfl, v7, hB7, hL7, hMw.trans ((hF.mod _).trans hM7)⟩
end
end Go.Proofs.YgvahwGreat
