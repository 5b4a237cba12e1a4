import Derived.Test.YgvahwGreatYpP
namespace Go.Proofs.YgvahwGreat
open Go.RowKit
section
variable {O : Nat → Prop} {w : World} {Y n : Nat} {t : TypeId} {c : Nat → Value}
set_option maxRecDepth 100000 in
set_option maxHeartbeats 1600000 in
theorem yMove0 (hB : Blk w Y n t c) (hn : 8 ≤ n) (hO : Small O w) (l : List YA) (h : AccL O w (c 0) l) (a b : Nat) (ha : a < 2 ^ 160) (hb : b < 2 ^ 160) (kv : Value) (k : Nat) (hk : NV O w kv k) (hlen : l.length ≤ 90000) (hk0 : k = 0 ∨ (acctL l a).bal < k) :
    Calls Hvah.prog 142 #[.pointer (some ⟨Y, 0, none⟩), .agg (av a), .agg (av b), kv] w fun e w' => e = .returned (.tuple #[]) ∧ Ext w w' := by
  have hE0 : Ext w ((w.alloc (.cells (av a) 31)).alloc (.cells (av b) 31)) := ext2 ..
  have hsa : (av a).size = 20 := av_size ha
  have hsb : (av b).size = 20 := av_size hb
  have HB := boxes2 w (av a) (av b) 31 31
  have HAc := fun W (hW : Ext w W) => yAccount (hB.ext hW) hn l (h.ext hW (fun _ _ _ k => k.ext hW)) a ha (by omega)
  have HI := fun W (hW : Ext w W) => nIsZero O kv k W (hk.ext hW)
  have hE := Ext.refl ((w.alloc (.cells (av a) 31)).alloc (.cells (av b) 31))
  by_cases hle : k ≤ (acctL l a).bal
  · have h0 : k = 0 := by omega
    rw [decide_eq_true h0] at HI
    clear hk0 h0
    go_enter Hvah.func142, Hvah.ntmps142
    go_wp2_with (first | ((with_reducible (refine Veil.out ?_; apply wl_box)); (case hx => rfl)) | ((with_reducible (refine Veil.out ?_; apply wl_loadR rt25)); (case hx => rfl); (case hr => first | (with_reducible exact (HB _ hE).1) | (with_reducible exact (HB _ hE).2)); (case hn => first | exact hsa | exact hsb)) | (go_at_call 53; refine (HAc _ (hE0.trans hE)).mono ?_; rintro e w1 ⟨r, rfl, hr, he⟩; replace hE := hE.trans he; obtain ⟨u1, u2, u3, u4, rfl, hp⟩ := hr; have hfl := fun W => run_field1 fld2 ⟨_, under96⟩ (acR_at hp.aLt u1 u2 u3 u4).1 W) | (go_at_call 134; refine (nSub O u2 kv (acctL l a).bal k _ ((hO.ext hE0).ext hE) hp.bal (hk.ext (hE0.trans hE))).mono ?_; rintro e w2 ⟨d, rfl, hd, he2⟩; replace hE := hE.trans he2; clear hfl; rw [decide_eq_true hle]) | (go_at_call 88; refine (HI _ (hE0.trans hE)).mono ?_; rintro e w3 ⟨rfl, hd3⟩; have he3 := drew_ext hd3; clear hd3; replace hE := hE.trans he3))
    refine bodyPost_ret (results_none Hvah.results142 _ _ _) rfl ?_
    exact ⟨rfl, hE0.trans hE⟩
  · clear hk0
    go_enter Hvah.func142, Hvah.ntmps142
    go_wp2_with (first | ((with_reducible (refine Veil.out ?_; apply wl_box)); (case hx => rfl)) | ((with_reducible (refine Veil.out ?_; apply wl_loadR rt25)); (case hx => rfl); (case hr => first | (with_reducible exact (HB _ hE).1) | (with_reducible exact (HB _ hE).2)); (case hn => first | exact hsa | exact hsb)) | (go_at_call 53; refine (HAc _ (hE0.trans hE)).mono ?_; rintro e w1 ⟨r, rfl, hr, he⟩; replace hE := hE.trans he; obtain ⟨u1, u2, u3, u4, rfl, hp⟩ := hr; have hfl := fun W => run_field1 fld2 ⟨_, under96⟩ (acR_at hp.aLt u1 u2 u3 u4).1 W) | (go_at_call 134; refine (nSub O u2 kv (acctL l a).bal k _ ((hO.ext hE0).ext hE) hp.bal (hk.ext (hE0.trans hE))).mono ?_; rintro e w2 ⟨d, rfl, hd, he2⟩; replace hE := hE.trans he2; clear hfl; rw [decide_eq_false hle]))
    refine bodyPost_ret (results_none Hvah.results142 _ _ _) rfl ?_
    exact ⟨rfl, hE0.trans hE⟩
end
end Go.Proofs.YgvahwGreat
