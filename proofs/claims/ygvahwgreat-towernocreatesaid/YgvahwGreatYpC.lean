import Derived.Test.YgvahwGreatRowsE
namespace Go.Proofs.YgvahwGreat
open Go.RowKit
theorem setCells_size (b : Nat) : ∀ (vs : List Value) (o : Nat) (w : World), (w.setCells b o vs).heap.size = w.heap.size
  | [], _, _ => rfl
  | _ :: vs, o, w => by rw [World.setCells, setCells_size b vs]; simp
theorem ins_cons (a x : Nat) (laid : Bool) (l : List Nat) (h : x ≠ a) : insG id a laid (x :: l) = (if !laid && decide (a < x) then [a] else []) ++ (x :: insG id a (laid || decide (a < x)) l) := by
  have e : decide (id a ≤ id x) = decide (a < x) := by
    rw [Bool.eq_iff_iff, decide_eq_true_iff, decide_eq_true_iff]
    simp only [id]
    omega
  have h2 : ¬ id x = id a := h
  rw [insG, e]
  rw [if_neg h2]
  rfl
set_option maxRecDepth 100000 in
set_option maxHeartbeats 3200000 in
theorem yWithAddr (O : Nat → Prop) (v : Value) (l : List Nat) (a : Nat) (w : World) (hO : Small O w) (h : AddrL O w v l) (ha : a < 2 ^ 160) (hlen : l.length ≤ 100000) :
    Calls Hvah.prog 137 #[v, .agg (av a)] w fun e w' => ∃ r, e = .returned r ∧ AddrL O w' r (withA l a) ∧ Ext w w' := by
  have hE0 : Ext w (w.alloc (.cells (av a) 31)) := (Ext.refl w).alloc _ _
  have hsa : (av a).size = 20 := av_size ha
  have HLi := yListed O v l a _ (h.ext hE0 (fun _ _ _ k => k)) ha (by omega)
  by_cases hin : a ∈ l
  · have e1 : withA l a = l := by simp [withA, hin]
    rw [e1]
    rw [decide_eq_true hin] at HLi
    have hA0 := row_new w (av a) 31
    go_enter Hvah.func137, Hvah.ntmps137
    go_wp2_with (first | ((with_reducible (refine Veil.out ?_; apply wl_box)); (case hx => rfl)) | ((with_reducible (refine Veil.out ?_; apply wl_loadR rt25)); (case hx => rfl); (case hr => exact hA0); (case hn => exact hsa)) | (go_at_call 157; refine HLi.mono ?_; rintro e w1 ⟨rfl, he⟩))
    go_ret
    exact ⟨v, rfl, h.ext (hE0.trans he) (fun _ _ _ k => k), hE0.trans he⟩
  · have e1 : withA l a = insG id a false l := by simp [withA, hin]
    rw [e1]
    rw [decide_eq_false hin] at HLi
    obtain ⟨o, cap, hv, hmax⟩ := h.slice
    have hlt : (l.length : Int) ≤ 100000 := by omega
    subst hv
    have hA0 := row_new w (av a) 31
    have HRow : ∀ k (hk : k < l.length), ∃ b, o = some ⟨b, 0, none⟩ ∧ (l[k] < 2 ^ 160) ∧ ∀ W, Ext w W → RowIn W b (k * 20) (av l[k]) := fun k hk => by
      obtain ⟨b, cap', c, hv, hcap, hcm, hb, hnO, hrow⟩ := h.at_ (fun q => by rw [q] at hk; cases hk)
      injection hv with hv1 _ hv2
      have hrk := hrow k hk
      exact ⟨b, hv1, hrk.2, fun W hW => hrk.1.row hrk.2 (hb.ext hW) (by have := Nat.mul_le_mul_right 20 (Nat.le_trans hk hcap); omega)⟩
    go_enter Hvah.func137, Hvah.ntmps137
    go_wp2_with (first | ((with_reducible (refine Veil.out ?_; apply wl_box)); (case hx => rfl)) | ((with_reducible (refine Veil.out ?_; apply wl_loadR rt25)); (case hx => rfl); (case hr => exact hA0); (case hn => exact hsa)) | (go_at_call 157; refine HLi.mono ?_; rintro e w1 ⟨rfl, he⟩))
    go_loopw [5, 6, 15] (fun ov lv ix wr => ∃ k out laid, k ≤ l.length ∧ ix = .int .i64 (k : Nat) ∧ lv = .bool laid ∧ out.length ≤ 2 * k ∧ GRow 31 20 AdC (fun b => (w.alloc (.cells (av a) 31)).heap.size ≤ b) wr ov out ∧ Hid (out ++ insG id a laid (l.drop k) = insG id a false l) ∧ Ext (w.alloc (.cells (av a) 31)) wr) (fun _ _ ix _ => l.length - (intOf ix).toNat)
    case atStart => exact ⟨0, [], false, by omega, rfl, rfl, by simp, Or.inl ⟨rfl, rfl⟩, by simp [Hid], he⟩
    case round =>
      obtain ⟨k, out, laid, hk, rfl, rfl, hol, hG, hinv, hE⟩ := hrel
      have HA : ∀ W, Ext (w.alloc (.cells (av a) 31)) W → RowIn W w.heap.size 0 (av a) := fun W hW => boxes1 w (av a) 31 W hW
      by_cases hlt2 : k < l.length
      · have hki : (k : Int) < l.length := by omega
        obtain ⟨b, rfl, hxl, HR0⟩ := HRow k hlt2
        have hsx := av_size hxl
        have hxa : l[k] ≠ a := fun q => hin (q ▸ List.getElem_mem hlt2)
        have hdr : l.drop k = l[k] :: l.drop (k + 1) := List.drop_eq_getElem_cons hlt2
        have hinv2 := hinv.out
        rw [hdr, ins_cons a l[k] laid _ hxa] at hinv2
        have HR := HR0 wr (hE0.trans hE)
        clear HR0 hdr hinv HRow
        have HI : Hid (_ = _) := hinv2
        clear hinv2
        generalize l[k] = x at *
        have HBf := fun W => yBefore a x W ha hxl
        have hE2 : Ext wr (wr.alloc (.cells (zrow 20) 31)) := (Ext.refl wr).alloc _ _
        have hZ := Ext.refl (wr.alloc (.cells (zrow 20) 31))
        cases laid with
        | true =>
          go_wp2_with (first | ((with_reducible (refine Veil.out ?_; apply wl_loadR rt25)); (case hx => rfl); (case hr => first | (with_reducible exact HR) | (with_reducible exact hR3)); (case hn => first | exact hsx | exact hsa)) | ((with_reducible (refine Veil.out ?_; apply wl_storeR rt25)); (case hx => rfl); (case hy => rfl); (case hn => exact hsx); (case hth => exact boxes_there _ (zrow 20) 31 _ _ rfl hZ); (case h1 => exact av_one _); refine w_gen (fun W => Ext wr W ∧ RowIn W wr.heap.size 0 (av x) ∧ wr.heap.size < W.heap.size) ⟨ext_setRow hE2 (Nat.le_refl _), row_set (by rw [hsx]; exact boxes_there _ (zrow 20) 31 _ _ rfl hZ), by rw [setCells_size]; simp⟩ ?_; rintro W3 ⟨hE3, hR3, hB3⟩; have hG3 := hG.ext hE3 (fun _ _ _ k => k); have hE03 := hE.trans hE3) | ((with_reducible (refine Veil.out ?_; apply wl_push sl94 (w.alloc (.cells (av a) 31)) x (av x))); (case hr => exact hsx); (case hone => exact av_one _); (case hG => exact hG3); (case hE => exact hE03); (case hn => first | omega | (simp; omega)); (case hy => rfl); (case hs => rfl); (case hb => rfl); (case hx => exact fun c o q => ⟨fun i u hu => q i u hu, hxl⟩); (case hRm => exact fun c c' o y q k => AdC.move q k); intro v5 W5 hG5 hE5 hk5))
          refine ⟨⟨k + 1, out ++ [x], true, by omega, int_eq (by omega), rfl, by simp; omega, hG5, ?_, hE5⟩, by simp [intOf]; omega⟩
          have := HI.out
          simpa [Hid] using this
        | false =>
          by_cases hax : a < x
          · rw [decide_eq_true hax] at HBf HI
            go_wp2_with (first | ((with_reducible (refine Veil.out ?_; apply wl_loadG rt25)); (case hw => first | rfl | simp [Region.wanted, yielded]); (case hx => rfl); (case hr => first | (with_reducible exact hR3) | (with_reducible exact HA _ hE03)); (case hn => first | exact hsx | exact hsa)) | ((with_reducible (refine Veil.out ?_; apply wl_loadR rt25)); (case hx => rfl); (case hr => first | (with_reducible exact HR) | (with_reducible exact HA _ hE5) | (with_reducible exact hR5) | (with_reducible exact HA _ hE03) | (with_reducible exact hR3)); (case hn => first | exact hsx | exact hsa)) | ((with_reducible (refine Veil.out ?_; apply wl_storeR rt25)); (case hx => rfl); (case hy => rfl); (case hn => exact hsx); (case hth => exact boxes_there _ (zrow 20) 31 _ _ rfl hZ); (case h1 => exact av_one _); refine w_gen (fun W => Ext wr W ∧ RowIn W wr.heap.size 0 (av x) ∧ wr.heap.size < W.heap.size) ⟨ext_setRow hE2 (Nat.le_refl _), row_set (by rw [hsx]; exact boxes_there _ (zrow 20) 31 _ _ rfl hZ), by rw [setCells_size]; simp⟩ ?_; rintro W3 ⟨hE3, hR3, hB3⟩; have hG3 := hG.ext hE3 (fun _ _ _ k => k); have hE03 := hE.trans hE3) | (go_at_call 139; refine (HBf _).mono ?_; rintro e w4 ⟨rfl, he4⟩; replace hE03 := hE03.trans he4; replace hG3 := hG3.ext he4 (fun _ _ _ k => k); replace hR3 := hR3.ext hB3 he4; replace hB3 := Nat.lt_of_lt_of_le hB3 he4.size) | ((with_reducible (refine Veil.out ?_; apply wl_push sl94 (w.alloc (.cells (av a) 31)) a (av a))); (case hr => exact hsa); (case hone => exact av_one _); (case hG => exact hG3); (case hE => exact hE03); (case hn => first | omega | (simp; omega)); (case hy => rfl); (case hs => rfl); (case hb => rfl); (case hx => exact fun c o q => ⟨fun i u hu => q i u hu, ha⟩); (case hRm => exact fun c c' o y q k => AdC.move q k); intro v5 W5 hG5 hE5 hk5; have hR5 := hk5 _ _ _ (hG.ne (Nat.le_refl _) _) hB3 hR3) | ((with_reducible (refine Veil.out ?_; apply wl_push sl94 (w.alloc (.cells (av a) 31)) x (av x))); (case hr => exact hsx); (case hone => exact av_one _); (case hG => exact hG5); (case hE => exact hE5); (case hn => first | omega | (simp; omega)); (case hy => rfl); (case hs => rfl); (case hb => rfl); (case hx => exact fun c o q => ⟨fun i u hu => q i u hu, hxl⟩); (case hRm => exact fun c c' o y q k => AdC.move q k); intro v7 W7 hG7 hE7 hk7))
            refine ⟨⟨k + 1, out ++ [a] ++ [x], true, by omega, int_eq (by omega), rfl, by simp; omega, hG7, ?_, hE7⟩, by simp [intOf]; omega⟩
            have := HI.out
            simpa [Hid] using this
          · rw [decide_eq_false hax] at HBf HI
            go_wp2_with (first | ((with_reducible (refine Veil.out ?_; apply wl_loadG rt25)); (case hw => first | rfl | simp [Region.wanted, yielded]); (case hx => rfl); (case hr => first | (with_reducible exact hR3) | (with_reducible exact HA _ hE03)); (case hn => first | exact hsx | exact hsa)) | ((with_reducible (refine Veil.out ?_; apply wl_loadR rt25)); (case hx => rfl); (case hr => first | (with_reducible exact HR) | (with_reducible exact HA _ hE03) | (with_reducible exact hR3)); (case hn => first | exact hsx | exact hsa)) | ((with_reducible (refine Veil.out ?_; apply wl_storeR rt25)); (case hx => rfl); (case hy => rfl); (case hn => exact hsx); (case hth => exact boxes_there _ (zrow 20) 31 _ _ rfl hZ); (case h1 => exact av_one _); refine w_gen (fun W => Ext wr W ∧ RowIn W wr.heap.size 0 (av x) ∧ wr.heap.size < W.heap.size) ⟨ext_setRow hE2 (Nat.le_refl _), row_set (by rw [hsx]; exact boxes_there _ (zrow 20) 31 _ _ rfl hZ), by rw [setCells_size]; simp⟩ ?_; rintro W3 ⟨hE3, hR3, hB3⟩; have hG3 := hG.ext hE3 (fun _ _ _ k => k); have hE03 := hE.trans hE3) | (go_at_call 139; refine (HBf _).mono ?_; rintro e w4 ⟨rfl, he4⟩; replace hE03 := hE03.trans he4; replace hG3 := hG3.ext he4 (fun _ _ _ k => k); replace hR3 := hR3.ext hB3 he4; replace hB3 := Nat.lt_of_lt_of_le hB3 he4.size) | ((with_reducible (refine Veil.out ?_; apply wl_push sl94 (w.alloc (.cells (av a) 31)) x (av x))); (case hr => exact hsx); (case hone => exact av_one _); (case hG => exact hG3); (case hE => exact hE03); (case hn => first | omega | (simp; omega)); (case hy => rfl); (case hs => rfl); (case hb => rfl); (case hx => exact fun c o q => ⟨fun i u hu => q i u hu, hxl⟩); (case hRm => exact fun c c' o y q k => AdC.move q k); intro v5 W5 hG5 hE5 hk5))
            refine ⟨⟨k + 1, out ++ [x], false, by omega, int_eq (by omega), rfl, by simp; omega, hG5, ?_, hE5⟩, by simp [intOf]; omega⟩
            have := HI.out
            simpa [Hid] using this
      · have hkn : k = l.length := by omega
        have hki : ¬ (k : Int) < l.length := by omega
        have hinv2 := hinv.out
        rw [List.drop_of_length_le (by omega)] at hinv2
        have hfin : ∀ (r : Value) (L : List Nat) (W : World), GRow 31 20 AdC (fun b => (w.alloc (.cells (av a) 31)).heap.size ≤ b) W r L → AddrL O W r L := fun r L W hr => hr.mono (fun _ _ _ k => k) (fun q _ hq => fun hOq => by have := hO q hOq; simp at hq; omega) (fun _ _ _ _ k _ => k)
        cases laid with
        | true =>
          have e3 : out = insG id a false l := by simpa [insG] using hinv2
          go_wp2
          go_ret
          exact ⟨_, rfl, by rw [← e3]; exact hfin _ _ _ hG, hE0.trans hE⟩
        | false =>
          have e3 : out ++ [a] = insG id a false l := by simpa [insG] using hinv2
          go_wp2_with (first | ((with_reducible (refine Veil.out ?_; apply wl_loadR rt25)); (case hx => rfl); (case hr => first | (with_reducible exact HA _ hE)); (case hn => first | exact hsx | exact hsa)) | ((with_reducible (refine Veil.out ?_; apply wl_push sl94 (w.alloc (.cells (av a) 31)) a (av a))); (case hr => exact hsa); (case hone => exact av_one _); (case hG => exact hG); (case hE => exact hE); (case hn => first | omega | (simp; omega)); (case hy => rfl); (case hs => rfl); (case hb => rfl); (case hx => exact fun c o q => ⟨fun i u hu => q i u hu, ha⟩); (case hRm => exact fun c c' o y q k => AdC.move q k); intro v5 W5 hG5 hE5 hk5))
          go_ret
          exact ⟨_, rfl, by rw [← e3]; exact hfin _ _ _ hG5, hE0.trans hE5⟩
end Go.Proofs.YgvahwGreat
