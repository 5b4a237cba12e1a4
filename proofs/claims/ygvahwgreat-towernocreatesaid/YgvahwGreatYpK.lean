import Derived.Test.YgvahwGreatYpH
namespace Go.Proofs.YgvahwGreat
open Go.RowKit
theorem rt116 : RowT 125 2 := rowT_of (by kernel_rfl) (by kernel_rfl)
theorem two_one {u z : Value} (hu : u.oneCell' = true) (hz : z.oneCell' = true) : ∀ v ∈ (#[u, z] : Array Value).toList, v.oneCell' = true := fun v hv => by
  simp at hv
  rcases hv with rfl | rfl
  · exact hu
  · exact hz
theorem two_parts {W : World} {B : Nat} {u z : Value} (h : RowIn W B 0 #[u, z]) : W.cell? ⟨B, 0, none⟩ = some u ∧ W.cell? ⟨B, 1, none⟩ = some z := ⟨h 0 u rfl, h 1 z rfl⟩
/-- A field's type and place. -/
def fieldOf (P : Program) (t : TypeId) (k : Nat) : Option (TypeId × Nat) := match P.underlying t with
  | some (.struct fs) => (fs[k]?).map fun f => (f.type, f.offset)
  | _ => none
theorem run_field1 {t ft : TypeId} {k off : Nat} {cs : Array Value} {v : Value} (h : fieldOf Hvah.prog t k = some (ft, off)) (hs : ∃ e, Hvah.prog.underlying ft = some (.slice e)) (hv : cs[off]? = some v) (w : World) : (Instr.field t (.agg cs) k).run Hvah.prog w = .ok v w := by
  obtain ⟨e, he⟩ := hs
  unfold fieldOf at h
  split at h
  · rename_i fs hu
    cases hf : fs[k]? with
    | none => rw [hf] at h; cases h
    | some f =>
      rw [hf] at h
      simp only [Option.map_some, Option.some.injEq, Prod.mk.injEq] at h
      obtain ⟨h1, h2⟩ := h
      subst h1
      subst h2
      simp [Instr.field, run_underlying hu, hf, asAgg, part, isAgg, run_underlying he, hv]
  · cases h
theorem fld4 : fieldOf Hvah.prog 121 4 = some (119, 23) := by kernel_rfl
theorem fld2 : fieldOf Hvah.prog 121 2 = some (109, 21) := by kernel_rfl
theorem under106 : Hvah.prog.underlying 119 = some (.slice 125) := by kernel_rfl
theorem under96 : Hvah.prog.underlying 109 = some (.slice 5) := by kernel_rfl
theorem acR_at {a : Nat} (ha : a < 2 ^ 160) (u1 u2 u3 u4 : Value) : (acR a u1 u2 u3 u4)[21]? = some u2 ∧ (acR a u1 u2 u3 u4)[23]? = some u4 := by
  have hs := av_size ha
  constructor
  · rw [acR, Array.getElem?_append_right (by omega), hs]; rfl
  · rw [acR, Array.getElem?_append_right (by omega), hs]; rfl
section
variable {O : Nat → Prop} {w : World} {Y n : Nat} {t : TypeId} {c : Nat → Value}
set_option maxRecDepth 100000 in
set_option maxHeartbeats 3200000 in
theorem yLoad (hB : Blk w Y n t c) (hn : 8 ≤ n) (la : List YA) (h : AccL O w (c 0) la) (a : Nat) (ha : a < 2 ^ 160) (kv : Value) (key : Nat) (hkv : NV O w kv key) (hlen : la.length ≤ 100000) (hsl : ((look YA.addr a la).getD (YA.new a)).slots.length ≤ 100000) :
    Calls Hvah.prog 241 #[.pointer (some ⟨Y, 0, none⟩), .agg (av a), kv] w fun e w' => ∃ r, e = .returned r ∧ NV O w' r (((look YA.addr a la).getD (YA.new a)).load key) ∧ Ext w w' := by
  have hE0 : Ext w (w.alloc (.cells (av a) 31)) := (Ext.refl w).alloc _ _
  have hsa : (av a).size = 20 := av_size ha
  have HA := boxes1 w (av a) 31 _ (Ext.refl _)
  have HAc := yAccount (hB.ext hE0) hn la (h.ext hE0 (fun _ _ _ k => k.ext hE0)) a ha hlen
  generalize (look YA.addr a la).getD (YA.new a) = x at *
  obtain ⟨l, hle⟩ : ∃ l, Hid (x.slots = l) := ⟨_, rfl⟩
  rw [hle.out] at hsl
  have hlt : (l.length : Int) ≤ 100000 := by omega
  go_enter Hvah.func241, Hvah.ntmps241
  go_wp2_with (first | ((with_reducible (refine Veil.out ?_; apply wl_box)); (case hx => rfl)) | ((with_reducible (refine Veil.out ?_; apply wl_loadR rt25)); (case hx => rfl); (case hr => exact HA); (case hn => exact hsa)) | (go_at_call 53; refine HAc.mono ?_; rintro e w1 ⟨r, rfl, hr, he⟩; obtain ⟨u1, u2, u3, u4, rfl, hp⟩ := hr; have hsl4 := hp.slots; rw [hle.out] at hsl4; obtain ⟨o, cap, hv, hmax⟩ := GRow.slice hsl4; subst hv; have hxl := hp.aLt; have hE1 := hE0.trans he; have hfl := fun W => run_field1 fld4 ⟨_, under106⟩ (acR_at hxl u1 u2 u3 (.slice o l.length cap)).2 W))
  clear hfl
  have HRow : ∀ k (hk : k < l.length), ∃ b u z, o = some ⟨b, 0, none⟩ ∧ NV O w1 u (l[k]).1 ∧ NV O w1 z (l[k]).2 ∧ ∀ W, Ext w1 W → RowIn W b (k * 2) #[u, z] := fun k hk => by
    obtain ⟨b, cap', cc, hv', hcap, hcm, hb, hnO, hrow⟩ := GRow.at_ hsl4 (fun q => by rw [q] at hk; cases hk)
    injection hv' with hv1 _ hv2
    have hrk := hrow k hk
    refine ⟨b, _, _, hv1, hrk.key, hrk.val, fun W hW => ?_⟩
    have hbW := hb.ext hW
    have hle2 : k * 2 + 2 ≤ cap' * 2 := by have := Nat.mul_le_mul_right 2 (Nat.le_trans hk hcap); omega
    intro i v hv
    have h2 : i = 0 ∨ i = 1 := by
      have := (Array.getElem?_eq_some_iff.1 hv).1
      simp at this; omega
    rcases h2 with rfl | rfl
    · simp at hv; rw [hbW.cell (by omega), Nat.add_zero, hv]
    · simp at hv; rw [hbW.cell (by omega), hv]
  go_loopw [14] (fun ix wr => ∃ k, k ≤ l.length ∧ ix = .int .i64 (k : Nat) ∧ (∀ x ∈ l.take k, x.1 ≠ key) ∧ Ext w1 wr) (fun ix _ => l.length - (intOf ix).toNat)
  case atStart => exact ⟨0, by omega, rfl, by simp, Ext.refl _⟩
  case round =>
    obtain ⟨k, hk, rfl, hno, hE⟩ := hrel
    by_cases hlt2 : k < l.length
    · have hki : (k : Int) < l.length := by omega
      obtain ⟨b, u, z, rfl, hu, hz, HR0⟩ := HRow k hlt2
      have HR := HR0 wr hE
      have hmem : ∀ x ∈ l.take (k + 1), x = l[k] ∨ x ∈ l.take k := fun x hx => by
        rw [List.take_add_one, List.getElem?_eq_getElem hlt2] at hx
        rcases List.mem_append.1 hx with hx | hx
        · exact Or.inr hx
        · left; simpa using hx
      have hlook : Hid (l[k].1 = key → x.load key = l[k].2) := fun q => by
        unfold YA.load
        rw [hle.out, look_at _ _ l k hlt2 hno q]
        rfl
      clear HR0 HRow
      generalize l[k] = p at *
      obtain ⟨y, zz⟩ := p
      simp only at hu hz hlook
      have hu1 := hu.one
      have hz1 := hz.one
      have HC := fun W (hW : Ext w1 W) => nCmp O u kv y key W (hu.ext hW) (hkv.ext (hE1.trans hW))
      have hE2 : Ext wr (wr.alloc (.cells #[.slice none 0 0, .slice none 0 0] 125)) := (Ext.refl wr).alloc _ _
      have hZ := Ext.refl (wr.alloc (.cells #[.slice none 0 0, .slice none 0 0] 125))
      by_cases hyk : y = key
      · subst hyk
        have hl2 : Hid (_ = _) := hlook.out rfl
        have hc0 : cmpI y y = 0 := by simp [cmpI]
        rw [hc0] at HC
        clear hlook
        go_wp2_with (first | ((with_reducible (refine Veil.out ?_; apply wl_loadR rt116)); (case hx => rfl); (case hr => exact HR); (case hn => rfl)) | ((with_reducible (refine Veil.out ?_; apply wl_storeR rt116)); (case hx => rfl); (case hy => rfl); (case hn => rfl); (case hth => exact boxes_there _ #[.slice none 0 0, .slice none 0 0] 125 _ _ rfl hZ); (case h1 => exact two_one hu1 hz1); refine w_gen (fun W => Ext wr W ∧ W.cell? ⟨wr.heap.size, 0, none⟩ = some u ∧ W.cell? ⟨wr.heap.size, 1, none⟩ = some z) ⟨ext_setRow hE2 (Nat.le_refl _), two_parts (row_set (boxes_there _ #[.slice none 0 0, .slice none 0 0] 125 _ _ rfl hZ))⟩ ?_; rintro W3 ⟨hE3, hC3, hC4⟩; have hB3 := cell_lt hC3) | (go_at_call 130; refine (HC _ (hE.trans hE3)).mono ?_; rintro e w4 ⟨rfl, hd4⟩; have he4 := drew_ext hd4; clear hd4; have hC5 := (he4.rc _ 1 hB3).trans hC4))
        go_ret
        exact ⟨z, rfl, by rw [hl2.out]; exact hz.ext ((hE.trans hE3).trans he4), hE1.trans ((hE.trans hE3).trans he4)⟩
      · have hc0 : (cmpI y key == 0) = false := by unfold cmpI; split <;> (try split) <;> simp <;> omega
        clear hlook
        go_wp2_with (first | ((with_reducible (refine Veil.out ?_; apply wl_loadR rt116)); (case hx => rfl); (case hr => exact HR); (case hn => rfl)) | ((with_reducible (refine Veil.out ?_; apply wl_storeR rt116)); (case hx => rfl); (case hy => rfl); (case hn => rfl); (case hth => exact boxes_there _ #[.slice none 0 0, .slice none 0 0] 125 _ _ rfl hZ); (case h1 => exact two_one hu1 hz1); refine w_gen (fun W => Ext wr W ∧ W.cell? ⟨wr.heap.size, 0, none⟩ = some u ∧ W.cell? ⟨wr.heap.size, 1, none⟩ = some z) ⟨ext_setRow hE2 (Nat.le_refl _), two_parts (row_set (boxes_there _ #[.slice none 0 0, .slice none 0 0] 125 _ _ rfl hZ))⟩ ?_; rintro W3 ⟨hE3, hC3, hC4⟩; have hB3 := cell_lt hC3) | (go_at_call 130; refine (HC _ (hE.trans hE3)).mono ?_; rintro e w4 ⟨rfl, hd4⟩; have he4 := drew_ext hd4; clear hd4; have hC5 := (he4.rc _ 1 hB3).trans hC4))
        refine ⟨⟨k + 1, by omega, int_eq (by omega), fun q hq => ?_, (hE.trans hE3).trans he4⟩, by simp [intOf]; omega⟩
        rcases hmem q hq with rfl | hq
        · exact hyk
        · exact hno q hq
    · have hkn : k = l.length := by omega
      have hki : ¬ (k : Int) < l.length := by omega
      have hl2 : Hid (x.load key = 0) := by
        unfold Hid YA.load
        rw [hle.out, look_no _ _ l (fun x hx => hno x (by rw [hkn, List.take_length]; exact hx))]
        rfl
      go_wp2
      go_ret
      exact ⟨_, rfl, by rw [hl2.out]; exact ⟨[], NL.nil, rfl⟩, hE1.trans hE⟩
end
end Go.Proofs.YgvahwGreat
