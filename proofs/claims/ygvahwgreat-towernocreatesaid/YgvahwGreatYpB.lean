import Derived.Test.YgvahwGreatMachG
import Derived.Test.YgvahwGreatYW
import Derived.Lib.Bytes
namespace Go.Proofs.YgvahwGreat
open Go.RowKit
/-- An address of a list. -/
def AdC (c : Nat → Value) (o a : Nat) : Prop := AAt c o a ∧ a < 2 ^ 160
/-- A list of addresses, which stands. -/
abbrev AddrL (O : Nat → Prop) (w : World) (v : Value) (l : List Nat) : Prop := GRow 31 20 AdC (fun b => ¬ O b) w v l
theorem av_one (a : Nat) : ∀ v ∈ (av a).toList, v.oneCell' = true := fun v hv => by
  simp [av, bcells] at hv
  obtain ⟨x, _, rfl⟩ := hv
  rfl
theorem GRow.at_ {α : Type} {ty : TypeId} {sz : Nat} {R : (Nat → Value) → Nat → α → Prop} {T : Nat → Prop} {w : World} {v : Value} {l : List α} (h : GRow ty sz R T w v l) (hne : l ≠ []) : ∃ b cap c, v = .slice (some ⟨b, 0, none⟩) l.length cap ∧ l.length ≤ cap ∧ cap ≤ 9223372036854775807 ∧ Blk w b (cap * sz) ty c ∧ T b ∧ ∀ (i : Nat) (h : i < l.length), R c (i * sz) l[i] := by
  rcases h with ⟨e, _⟩ | h
  · exact absurd e hne
  · exact h
theorem GRow.slice {α : Type} {ty : TypeId} {sz : Nat} {R : (Nat → Value) → Nat → α → Prop} {T : Nat → Prop} {w : World} {v : Value} {l : List α} (h : GRow ty sz R T w v l) : ∃ o cap, v = .slice o l.length cap ∧ l.length ≤ 9223372036854775807 := by
  rcases h with ⟨rfl, rfl⟩ | ⟨b, cap, c, h1, h2, h3, _⟩
  · exact ⟨none, 0, rfl, by simp⟩
  · exact ⟨_, _, h1, by omega⟩
section
attribute [local go_sem] run_eq_av
set_option maxRecDepth 100000 in
set_option maxHeartbeats 1600000 in
theorem yListed (O : Nat → Prop) (v : Value) (l : List Nat) (a : Nat) (w : World) (h : AddrL O w v l) (ha : a < 2 ^ 160) (hlen : l.length ≤ 1000000) :
    Calls Hvah.prog 157 #[v, .agg (av a)] w fun e w' => e = .returned (.bool (decide (a ∈ l))) ∧ Ext w w' := by
  obtain ⟨o, cap, hv, hmax⟩ := h.slice
  have hlt : (l.length : Int) ≤ 1000000 := by omega
  subst hv
  have hE0 : Ext w (w.alloc (.cells (av a) 31)) := (Ext.refl w).alloc _ _
  have hsa : (av a).size = 20 := av_size ha
  go_enter Hvah.func157, Hvah.ntmps157
  go_wp2_with ((with_reducible (refine Veil.out ?_; apply wl_box)); (case hx => rfl))
  go_loopw [9] (fun ix wr => ∃ k, k ≤ l.length ∧ ix = .int .i64 (k : Nat) ∧ (∀ x ∈ l.take k, x ≠ a) ∧ Ext (w.alloc (.cells (av a) 31)) wr) (fun ix _ => l.length - (intOf ix).toNat)
  case atStart => exact ⟨0, by omega, rfl, by simp, Ext.refl _⟩
  case round =>
    obtain ⟨k, hk, rfl, hno, hE⟩ := hrel
    by_cases hlt2 : k < l.length
    · have hki : (k : Int) < l.length := by omega
      obtain ⟨b, cap', c, hv, hcap, hcm, hb, hnO, hrow⟩ := h.at_ (fun q => by rw [q] at hlt2; cases hlt2)
      injection hv with hv1 _ hv2
      subst hv1
      subst hv2
      have hrk := hrow k hlt2
      have hxl : l[k] < 2 ^ 160 := hrk.2
      have hsx := av_size hxl
      have hmem : ∀ x ∈ l.take (k + 1), x = l[k] ∨ x ∈ l.take k := fun x hx => by
        rw [List.take_add_one, List.getElem?_eq_getElem hlt2] at hx
        rcases List.mem_append.1 hx with hx | hx
        · exact Or.inr hx
        · left; simpa using hx
      have hin : l[k] ∈ l := List.getElem_mem hlt2
      have HR : ∀ W, Ext wr W → RowIn W b (k * 20) (av l[k]) := fun W hW => hrk.1.row hxl (hb.ext ((hE0.trans hE).trans hW)) (by have := Nat.mul_le_mul_right 20 (Nat.le_trans hlt2 hcap); omega)
      have HA : ∀ W, Ext wr W → RowIn W w.heap.size 0 (av a) := fun W hW => boxes1 w (av a) 31 W (hE.trans hW)
      generalize l[k] = x at *
      have hE2 : Ext wr (wr.alloc (.cells (zrow 20) 31)) := (Ext.refl wr).alloc _ _
      have hZ := Ext.refl (wr.alloc (.cells (zrow 20) 31))
      go_wp2_with (first | ((with_reducible (refine Veil.out ?_; apply wl_loadR rt25)); (case hx => rfl); (case hr => first | (with_reducible exact HR _ (Ext.refl _)) | (with_reducible exact HR _ hE2) | (with_reducible exact HA _ hE3) | (with_reducible exact hR3)); (case hn => first | exact hsx | exact hsa)) | ((with_reducible (refine Veil.out ?_; apply wl_storeR rt25)); (case hx => rfl); (case hy => rfl); (case hn => exact hsx); (case hth => exact boxes_there _ (zrow 20) 31 _ _ rfl hZ); (case h1 => exact av_one _); refine w_gen (fun W => Ext wr W ∧ RowIn W wr.heap.size 0 (av x)) ⟨ext_setRow hE2 (Nat.le_refl _), row_set (by rw [hsx]; exact boxes_there _ (zrow 20) 31 _ _ rfl hZ)⟩ ?_; rintro W3 ⟨hE3, hR3⟩))
      · have q : x = a := by assumption
        go_ret
        exact ⟨by rw [← q, decide_eq_true hin]; rfl, (hE0.trans hE).trans hE3⟩
      · have q : ¬ x = a := by assumption
        refine ⟨⟨k + 1, by omega, int_eq (by omega), fun y hy => ?_, hE.trans hE3⟩, by simp [intOf]; omega⟩
        rcases hmem y hy with rfl | hy
        · exact q
        · exact hno y hy
    · have hkn : k = l.length := by omega
      have hki : ¬ (k : Int) < l.length := by omega
      go_wp2
      go_ret
      refine ⟨?_, hE0.trans hE⟩
      rw [decide_eq_false (fun q => hno a (by rw [hkn, List.take_length]; exact q) rfl)]
      rfl
end
theorem under32' : Hvah.prog.underlying 23 = some (.slice 5) := by kernel_rfl
theorem under9 : Hvah.prog.underlying 9 = some .string := by kernel_rfl
/-- Bytes as a string. -/
def sN (l : List Nat) : ByteArray := strOfNums (l.map fun (d : Nat) => (d : Int))
theorem row_str {W : World} {B o : Nat} {L : List Nat} {n cap : Nat} (hn : L.length = n) (h : RowIn W B o (bcells L).toArray) : (convert 23 9 (.slice (some ⟨B, o, none⟩) n cap)).run Hvah.prog W = .ok (.string (sN L)) W := by
  refine run_convert_bytes_arg W 23 5 under32' under5 B o n cap _ (by simpa using hn) (fun i hi => ?_) 9 under9
  refine h i _ ?_
  simp [bcells, List.getD, show i < L.length by omega]
theorem bev_cons (x : Nat) (l : List Nat) : bev (x :: l) = bev l + 256 ^ l.length * x := by
  unfold bev
  rw [List.reverse_cons, val_append]
  simp [val]
theorem bev_lt (l : List Nat) (h : Digits l) : bev l < 256 ^ l.length := by
  have := val_lt l.reverse (fun d hd => h d (by simpa using hd))
  simpa [bev] using this
theorem less_bev : ∀ (l m : List Nat), l.length = m.length → Digits l → Digits m → Op.bytesLess (l.map UInt8.ofNat) (m.map UInt8.ofNat) = decide (bev l < bev m)
  | [], [], _, _, _ => by simp [Op.bytesLess]
  | x :: l, y :: m, hlen, hl, hm => by
    have ih := less_bev l m (by simpa using hlen) (fun d hd => hl d (List.mem_cons_of_mem _ hd)) (fun d hd => hm d (List.mem_cons_of_mem _ hd))
    have hx : x < 256 := hl x (List.mem_cons_self ..)
    have hy : y < 256 := hm y (List.mem_cons_self ..)
    have h1 := bev_lt l (fun d hd => hl d (List.mem_cons_of_mem _ hd))
    have h2 := bev_lt m (fun d hd => hm d (List.mem_cons_of_mem _ hd))
    have hle : l.length = m.length := by simpa using hlen
    rw [hle] at h1
    simp only [List.map_cons, Op.bytesLess, ih]
    rw [bev_cons, bev_cons, hle]
    have e1 : (UInt8.ofNat x < UInt8.ofNat y) = (x < y) := by
      rw [UInt8.lt_iff_toNat_lt]
      simp [UInt8.toNat_ofNat', Nat.mod_eq_of_lt hx, Nat.mod_eq_of_lt hy]
    have e2 : (UInt8.ofNat x == UInt8.ofNat y) = decide (x = y) := by
      rw [Bool.eq_iff_iff, beq_iff_eq, decide_eq_true_iff]
      constructor
      · intro q
        have := congrArg UInt8.toNat q
        simpa [UInt8.toNat_ofNat', Nat.mod_eq_of_lt hx, Nat.mod_eq_of_lt hy] using this
      · intro q; rw [q]
    rw [e2]
    simp only [e1]
    generalize 256 ^ m.length = P at *
    rcases Nat.lt_trichotomy x y with h | h | h
    · have h3 : P * x + P ≤ P * y := by rw [← Nat.mul_succ]; exact Nat.mul_le_mul_left _ h
      have : bev l + P * x < bev m + P * y := by omega
      simp [h, this]
    · subst h
      simp
    · have h3 : P * y + P ≤ P * x := by rw [← Nat.mul_succ]; exact Nat.mul_le_mul_left _ h
      have : ¬ bev l + P * x < bev m + P * y := by omega
      have h4 : ¬ x < y := by omega
      have h5 : ¬ x = y := by omega
      simp [h4, h5, this]
theorem less_sN (l m : List Nat) (h : l.length = m.length) (hl : Digits l) (hm : Digits m) : Op.bytesLess (sN l).toList (sN m).toList = decide (bev l < bev m) := by
  rw [← less_bev l m h hl hm]
  unfold sN
  rw [Lib.strOfNums_toList, Lib.strOfNums_toList]
  simp [Lib.bytesOf, Function.comp_def]
set_option maxRecDepth 100000 in
set_option maxHeartbeats 1600000 in
theorem yBefore (a b : Nat) (w : World) (ha : a < 2 ^ 160) (hb : b < 2 ^ 160) :
    Calls Hvah.prog 139 #[.agg (av a), .agg (av b)] w fun e w' => e = .returned (.bool (decide (a < b))) ∧ Ext w w' := by
  have HB := boxes2 w (av a) (av b) 31 31
  have HC1 := fun W hW => row_str (cap := 20) (len20 ha) (HB W hW).1
  have HC2 := fun W hW => row_str (cap := 20) (len20 hb) (HB W hW).2
  have hE : Ext w ((w.alloc (.cells (av a) 31)).alloc (.cells (av b) 31)) := ext2 ..
  go_enter Hvah.func139, Hvah.ntmps139
  go_wp2_with ((with_reducible (refine Veil.out ?_; apply wl_box)); (case hx => rfl))
  refine rg_still (by kernel_rfl) fun W hW hcc => ?_
  have q1 := HC1 W hW
  have q2 := HC2 W hW
  clear hcc
  repeat (refine wpStill_step (fun K hK => ?_); go_simp; refine hK _ ?_; clear hK K)
  refine wpStill_nil ?_
  go_wp2
  go_ret
  refine ⟨?_, hE.trans hW⟩
  have := less_sN (beL 20 a) (beL 20 b) (by rw [len20 ha, len20 hb]) (digits_beL 20 a) (digits_beL 20 b)
  rw [bev_beL, bev_beL] at this
  rw [← this]
  rfl
end Go.Proofs.YgvahwGreat
