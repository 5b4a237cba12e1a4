import Derived.Test.YgvahwGreatOg
import Derived.Test.YgvahwGreatMv
namespace Go.Proofs.YgvahwGreat
open Go.RowKit
set_option linter.unusedSimpArgs false
theorem bev_snoc (l : List Nat) (x : Nat) : bev (l ++ [x]) = 256 * bev l + x := by
  unfold bev
  rw [List.reverse_append]
  show val (x :: l.reverse) = _
  show x + 256 * val l.reverse = _
  omega
theorem wv_small {x : Nat} (hx : x < 18446744073709551616) : wv x = .agg #[.int .u64 (x : Nat), .int .u64 0, .int .u64 0, .int .u64 0] := by
  obtain ⟨l0, l1, l2, l3⟩ := lim_small4 hx
  unfold wv
  rw [l0, l1, l2, l3]
  rfl
theorem push_or {x y : Nat} (hx : x < 72057594037927936) (hy : y < 256) : bits .or .u64 ((x : Int) * 256) (y : Int) = ((256 * x + y : Nat) : Int) := by
  rw [show ((x : Int) * 256) = ((256 * x : Nat) : Int) by omega]
  have := u64_or_nat (256 * x) y (by omega) (by omega)
  rw [this]
  congr 1
  have h := Nat.two_pow_add_eq_or_of_lt (i := 8) (b := y) (by simpa using hy) x
  rw [show (2 : Nat) ^ 8 = 256 from rfl] at h
  omega
theorem bev_zeros (k : Nat) (l : List Nat) : bev (List.replicate k 0 ++ l) = bev l := by
  induction k with
  | zero => rfl
  | succ k ih => rw [List.replicate_succ, List.cons_append, bev_cons, Nat.mul_zero, Nat.add_zero, ih]
theorem cut_rowN (L : List Nat) (n k : Nat) (hn : n ≤ 32) (hk : k = min L.length n) : rowOf (layv (cf #[.int .u8 0, .int .u8 0, .int .u8 0, .int .u8 0, .int .u8 0, .int .u8 0, .int .u8 0, .int .u8 0, .int .u8 0, .int .u8 0, .int .u8 0, .int .u8 0, .int .u8 0, .int .u8 0, .int .u8 0, .int .u8 0, .int .u8 0, .int .u8 0, .int .u8 0, .int .u8 0, .int .u8 0, .int .u8 0, .int .u8 0, .int .u8 0, .int .u8 0, .int .u8 0, .int .u8 0, .int .u8 0, .int .u8 0, .int .u8 0, .int .u8 0, .int .u8 0]) (32 - n) (bcells (L.take k)).toArray) 0 32 = (bcells (List.replicate (32 - n) 0 ++ (L ++ List.replicate n 0).take n)).toArray := by
  have hs : (bcells (L.take k)).toArray.size = k := by simp [bcells_length]; omega
  refine ext_cf (by rw [rowOf_size]; simp [bcells_length]; omega) (fun i hi => ?_)
  rw [rowOf_size] at hi
  rw [cf_rowOf _ _ _ hi, Nat.zero_add]
  have hR : (List.replicate (32 - n) 0 ++ (L ++ List.replicate n 0).take n)[i]? = some (if 32 - n ≤ i ∧ i < 32 - n + k then L.getD (i - (32 - n)) 0 else 0) := by
    by_cases h0 : i < 32 - n
    · rw [List.getElem?_append_left (by simpa using h0), List.getElem?_replicate, if_pos h0, if_neg (by omega)]
    · rw [List.getElem?_append_right (by simp; omega), List.length_replicate, List.getElem?_take, if_pos (by omega)]
      by_cases h : i - (32 - n) < L.length
      · rw [List.getElem?_append_left h, if_pos (by omega)]; simp [List.getD, h]
      · rw [List.getElem?_append_right (by omega), if_neg (by omega), List.getElem?_replicate, if_pos (by omega)]
  have e2 : cf (bcells (List.replicate (32 - n) 0 ++ (L ++ List.replicate n 0).take n)).toArray i = .int .u8 ((if 32 - n ≤ i ∧ i < 32 - n + k then L.getD (i - (32 - n)) 0 else 0 : Nat) : Int) := cf_get (by simp only [bcells, List.getElem?_toArray, List.getElem?_map, hR, Option.map_some])
  rw [e2]
  by_cases h : 32 - n ≤ i ∧ i < 32 - n + k
  · have := layv_in (cf #[.int .u8 0, .int .u8 0, .int .u8 0, .int .u8 0, .int .u8 0, .int .u8 0, .int .u8 0, .int .u8 0, .int .u8 0, .int .u8 0, .int .u8 0, .int .u8 0, .int .u8 0, .int .u8 0, .int .u8 0, .int .u8 0, .int .u8 0, .int .u8 0, .int .u8 0, .int .u8 0, .int .u8 0, .int .u8 0, .int .u8 0, .int .u8 0, .int .u8 0, .int .u8 0, .int .u8 0, .int .u8 0, .int .u8 0, .int .u8 0, .int .u8 0, .int .u8 0]) (32 - n) (bcells (L.take k)).toArray (j := i - (32 - n)) (by rw [hs]; omega)
    rw [show 32 - n + (i - (32 - n)) = i by omega] at this
    rw [this, if_pos h]
    have hL : (L.take k)[i - (32 - n)]? = some (L.getD (i - (32 - n)) 0) := by rw [List.getElem?_take, if_pos (by omega)]; simp [List.getD, show i - (32 - n) < L.length by omega]
    exact cf_get (by simp only [bcells, List.getElem?_toArray, List.getElem?_map, hL, Option.map_some])
  · rw [layv_out _ _ _ (by rw [hs]; omega), z27_at hi, if_neg h]; rfl
theorem zero_row27 : rowOf (cf #[.int .u8 0, .int .u8 0, .int .u8 0, .int .u8 0, .int .u8 0, .int .u8 0, .int .u8 0, .int .u8 0, .int .u8 0, .int .u8 0, .int .u8 0, .int .u8 0, .int .u8 0, .int .u8 0, .int .u8 0, .int .u8 0, .int .u8 0, .int .u8 0, .int .u8 0, .int .u8 0, .int .u8 0, .int .u8 0, .int .u8 0, .int .u8 0, .int .u8 0, .int .u8 0, .int .u8 0, .int .u8 0, .int .u8 0, .int .u8 0, .int .u8 0, .int .u8 0]) 0 32 = (bcells (List.replicate 32 0)).toArray := by
  have := cut_rowN [] 0 0 (by decide) rfl
  rw [List.take_nil] at this
  rw [← show rowOf (layv (cf #[.int .u8 0, .int .u8 0, .int .u8 0, .int .u8 0, .int .u8 0, .int .u8 0, .int .u8 0, .int .u8 0, .int .u8 0, .int .u8 0, .int .u8 0, .int .u8 0, .int .u8 0, .int .u8 0, .int .u8 0, .int .u8 0, .int .u8 0, .int .u8 0, .int .u8 0, .int .u8 0, .int .u8 0, .int .u8 0, .int .u8 0, .int .u8 0, .int .u8 0, .int .u8 0, .int .u8 0, .int .u8 0, .int .u8 0, .int .u8 0, .int .u8 0, .int .u8 0]) (32 - 0) (bcells []).toArray) 0 32 = rowOf (cf #[.int .u8 0, .int .u8 0, .int .u8 0, .int .u8 0, .int .u8 0, .int .u8 0, .int .u8 0, .int .u8 0, .int .u8 0, .int .u8 0, .int .u8 0, .int .u8 0, .int .u8 0, .int .u8 0, .int .u8 0, .int .u8 0, .int .u8 0, .int .u8 0, .int .u8 0, .int .u8 0, .int .u8 0, .int .u8 0, .int .u8 0, .int .u8 0, .int .u8 0, .int .u8 0, .int .u8 0, .int .u8 0, .int .u8 0, .int .u8 0, .int .u8 0, .int .u8 0]) 0 32 from ext_cf (by rw [rowOf_size, rowOf_size]) (fun i hi => by rw [rowOf_size] at hi; rw [cf_rowOf _ _ _ hi, cf_rowOf _ _ _ hi, layv_out _ _ _ (by omega)])]
  exact this
theorem take_snoc {l : List Nat} {i : Nat} (h : i < l.length) : l.take (i + 1) = l.take i ++ [l.getD i 0] := by
  rw [List.take_add_one, List.getElem?_eq_getElem h, List.getD_eq_getElem?_getD, List.getElem?_eq_getElem h]; rfl
section
variable {own : Nat → Nat} {w : World} {g : Nat} {c : Nat → Value} {V : EV} {st : ASt} {sn stale : List Nat} {s : Nat} {f : AFrame} {rest : List AFrame}
set_option maxRecDepth 100000 in
set_option maxHeartbeats 6400000 in
theorem mOpPushA (h : MRep own w g c V st (s :: sn) stale) (hst : st.frames = f :: rest) (hph : st.phase = 1) (ho : 95 ≤ f.opcode ∧ f.opcode ≤ 127) (hl2 : f.stack.length < 64) (hpc : f.pc ≤ 50000) (hf : immA f.opcode ≤ 8) (hf2 : f.pc + 1 + immA f.opcode ≤ f.code.length) (hf3 : 0 < immA f.opcode) : Calls Hvah.prog 325 #[.pointer (some ⟨g, 0, none⟩)] w fun e w' => e = .returned (.tuple #[]) ∧ ∃ c', MRep own w' g c' V { st with frames := f.settle 0 [bev (cutA f.code (f.pc + 1) (immA f.opcode))] (1 + immA f.opcode) :: rest } (s :: sn) stale ∧ MStep own w own w' := by
  obtain ⟨hfr, hr7⟩ := h.frame hst
  have HR := fun W (hW : Ext w W) => mRun (h.ext hW) hst hph
  have HO := fun W (hW : Ext w W) => mOp (h.ext hW) hst hph
  have hnn : immA f.opcode ≤ 32 := by unfold immA; split <;> omega
  have HI := fun W => oImm f.opcode W (by omega)
  have hcl := hfr.ok.code
  have hvl : bev (cutA f.code (f.pc + 1) (immA f.opcode)) < P256 := by
    have hdig : Digits (cutA f.code (f.pc + 1) (immA f.opcode)) := fun d hd => by
      rcases List.mem_append.1 (List.mem_of_mem_take hd) with q | q
      · exact hfr.code.digits d (List.mem_of_mem_drop q)
      · rw [List.eq_of_mem_replicate q]; decide
    refine Nat.lt_of_lt_of_le (bev_lt _ hdig) ?_
    have hlen : (cutA f.code (f.pc + 1) (immA f.opcode)).length = immA f.opcode := by simp [cutA]
    rw [hlen, show P256 = 256 ^ 32 from by decide]
    exact Nat.pow_le_pow_right (by decide) hnn
  have HS := mSetP h hst 0 (1 + immA f.opcode) (bev (cutA f.code (f.pc + 1) (immA f.opcode))) (by omega) (by omega) hvl (by omega)
  clear hvl
  obtain ⟨co, cap, hcd, i1, i2, i3⟩ := hfr.code
  have KP : ∀ W, Ext w W → W.cell? ⟨g, 1803 + rest.length * 65 + 4, none⟩ = some (.int .u16 (f.pc : Nat)) := fun W hW => by rw [(h.v.blk.ext hW).cell (by omega), hfr.pc]
  have KC : ∀ W, Ext w W → W.cell? ⟨g, 1803 + rest.length * 65 + 53, none⟩ = some (.slice co f.code.length cap) := fun W hW => by rw [(h.v.blk.ext hW).cell (by omega), hcd]
  replace hcd : Hid (c (1803 + rest.length * 65 + 53) = .slice co f.code.length cap) := hcd
  have hcut : cutA f.code (f.pc + 1) (immA f.opcode) = (f.code.drop (f.pc + 1)).take (immA f.opcode) := by
    unfold cutA
    rw [List.take_append_of_le_length (by rw [List.length_drop]; omega)]
  rw [hcut] at HS
  rw [hcut]
  obtain ⟨n, hn⟩ : ∃ n, Hid (immA f.opcode = n) := ⟨_, rfl⟩
  obtain ⟨m, hm⟩ : ∃ m, Hid (f.code.length = m) := ⟨_, rfl⟩
  clear hcut
  rw [hn.out] at HI HS hf hf2 hf3 hnn
  rw [hm.out] at KC hf2 hcl i1
  rw [hn.out]
  obtain ⟨P, hP⟩ : ∃ P, Hid (f.pc = P) := ⟨_, rfl⟩
  have hpc' : P ≤ 50000 := by rw [← hP.out]; exact hpc
  rw [hP.out] at KP hf2 HS
  rw [hP.out]
  have j1 : (n : Int) ≤ 8 := by omega
  have j2 : (P : Int) + 1 + n ≤ m := by omega
  have j3 : (P : Int) + 1 + n - n = ((P + 1 : Nat) : Int) := by omega
  have j4 : ((P + 1 : Nat) : Int) ≤ (P : Int) + 1 + n := by omega
  have j5 : (P : Int) + 1 + n ≤ cap := by omega
  have j6 : ¬ cap = P + 1 := by omega
  have jw : IntKind.i64.wrap (n : Int) = n := by rw [IntKind.wrap_i64]; omega
  have jw2 : IntKind.i64.wrap (P : Int) = P := by rw [IntKind.wrap_i64]; omega
  have jw3 : IntKind.i64.wrap ((P : Int) + 1) = (P : Int) + 1 := by rw [IntKind.wrap_i64]; omega
  have jw4 : IntKind.i64.wrap ((P : Int) + 1 + n) = (P : Int) + 1 + n := by rw [IntKind.wrap_i64]; omega
  have jw5 : IntKind.i64.wrap ((P : Int) + 1 + n - n) = ((P + 1 : Nat) : Int) := by rw [IntKind.wrap_i64]; omega
  obtain ⟨b, o, rfl, hbn, hbl, hbc⟩ := i3.spot (fun q => by rw [q] at hm; have := hm.out; simp at this; omega)
  have hdc := fun x hx => i3.lt x hx
  clear i3 hfr
  obtain ⟨L, hL⟩ : ∃ L, Hid ((f.code.drop (P + 1)).take n = L) := ⟨_, rfl⟩
  rw [hL.out] at HS
  rw [hL.out]
  go_enter Hvah.func325, Hvah.ntmps325
  go_wp2_with (first | (go_at_call 192; refine (HR _ (by (repeat (first | with_reducible exact Ext.refl _ | with_reducible assumption | refine Ext.trans ?_ (by with_reducible assumption) | refine Ext.alloc ?_ _ _ | refine Ext.drew ?_ | refine Ext.drewN ?_ _)))).mono ?_; rintro e w1 ⟨rfl, he⟩) | (go_at_call 117; refine (HO _ (by (repeat (first | with_reducible exact Ext.refl _ | with_reducible assumption | refine Ext.trans ?_ (by with_reducible assumption) | refine Ext.alloc ?_ _ _ | refine Ext.drew ?_ | refine Ext.drewN ?_ _)))).mono ?_; rintro e w1 ⟨rfl, he⟩) | (go_at_call 160; refine (HI _).mono ?_; rintro e w1 ⟨rfl, hww⟩; replace hww := hww.symm; subst hww) | ((with_reducible (refine Veil.out ?_; apply wl_loadC onel68)); (case hw => rfl); (case hx => rfl); (case hc => exact KP _ (by (repeat (first | with_reducible exact Ext.refl _ | with_reducible assumption | refine Ext.trans ?_ (by with_reducible assumption) | refine Ext.alloc ?_ _ _ | refine Ext.drew ?_ | refine Ext.drewN ?_ _))))) | ((with_reducible (refine Veil.out ?_; apply wl_loadC one32)); (case hw => first | rfl | go_simp); (case hx => rfl); (case hc => exact KC _ (by (repeat (first | with_reducible exact Ext.refl _ | with_reducible assumption | refine Ext.trans ?_ (by with_reducible assumption) | refine Ext.alloc ?_ _ _ | refine Ext.drew ?_ | refine Ext.drewN ?_ _))))) | ((with_reducible (refine Veil.out ?_; apply wlG_load1 one32)); (case hw => go_simp); (case hx => rfl); (case hB => exact h.v.blk.ext (by (repeat (first | with_reducible exact Ext.refl _ | with_reducible assumption | refine Ext.trans ?_ (by with_reducible assumption) | refine Ext.alloc ?_ _ _ | refine Ext.drew ?_ | refine Ext.drewN ?_ _)))); (case hi => omega)))
  have hE0 : Ext w w1 := by (repeat (first | with_reducible exact Ext.refl _ | with_reducible assumption | refine Ext.trans ?_ (by with_reducible assumption) | refine Ext.alloc ?_ _ _ | refine Ext.drew ?_ | refine Ext.drewN ?_ _))
  have hLn : L.length = n := by rw [← hL.out, List.length_take, List.length_drop, hm.out]; omega
  have hLc : ∀ W, Ext w W → ∀ i, i < n → W.cell? ⟨b, o + (P + 1) + i, none⟩ = some (.int .u8 (L.getD i 0 : Nat)) := fun W hW i hi => by
    have hq : P + 1 + i < f.code.length := by rw [hm.out]; omega
    rw [hW.rc _ _ hbl, show o + (P + 1) + i = o + (P + 1 + i) by omega, hbc _ hq, ← hL.out, List.getD_eq_getElem?_getD, List.getElem?_take, if_pos hi, List.getElem?_drop, List.getElem?_eq_getElem hq]; rfl
  have hLd : ∀ i, i < n → L.getD i 0 < 256 := fun i hi => by
    have hq : P + 1 + i < f.code.length := by rw [hm.out]; omega
    rw [← hL.out, List.getD_eq_getElem?_getD, List.getElem?_take, if_pos hi, List.getElem?_drop, List.getElem?_eq_getElem hq]
    exact hdc _ (List.getElem_mem hq)
  have hLD : Digits L := fun x hx => by rw [← hL.out] at hx; exact hdc x (List.mem_of_mem_drop (List.mem_of_mem_take hx))
  have hbL : ∀ i, i ≤ n → bev (L.take i) < 256 ^ i := fun i hi => by
    have := bev_lt (L.take i) (fun x hx => hLD x (List.mem_of_mem_take hx))
    rwa [List.length_take, hLn, Nat.min_eq_left hi] at this
  clear hbc hdc
  rw [show P + 1 + n - (P + 1) = n by omega]
  go_loopw [5, 47] (fun xv iv wr => ∃ i, xv = .int .u64 (bev (L.take i) : Nat) ∧ iv = .int .i64 (i : Nat) ∧ i ≤ n ∧ Ext w wr) (fun _ iv _ => n - (intOf iv).toNat)
  case atStart => exact ⟨0, rfl, rfl, by omega, hE0⟩
  case round =>
    obtain ⟨i, rfl, rfl, hin, hE⟩ := hrel
    rcases Nat.lt_or_ge i n with hlt | hge
    · have hii : (i : Int) < n := by omega
      have K5 := fun W (hW : Ext wr W) => hLc W (hE.trans hW) i hlt
      have hx := hLd i hlt
      have hsn : bev (L.take (i + 1)) = 256 * bev (L.take i) + L.getD i 0 := by rw [take_snoc (by omega), bev_snoc]
      have hpb : bev (L.take i) < 72057594037927936 := Nat.lt_of_lt_of_le (hbL i hin) (show 256 ^ i ≤ 256 ^ 7 from Nat.pow_le_pow_right (by decide) (by omega))
      obtain ⟨y, hy⟩ : ∃ y, Hid (bev (L.take i) = y) := ⟨_, rfl⟩
      obtain ⟨x, hx9⟩ : ∃ x, Hid (L.getD i 0 = x) := ⟨_, rfl⟩
      rw [hy.out] at hsn hpb
      rw [hx9.out] at hsn hx K5
      rw [hy.out]
      have hor := push_or hpb hx
      have hwi : IntKind.i64.wrap (i : Int) = i := by rw [IntKind.wrap_i64]; omega
      have hwx : IntKind.u64.wrap (x : Int) = x := by rw [IntKind.wrap_u64]; omega
      clear hLc hbL
      go_wp2_with (first | ((with_reducible (refine Veil.out ?_; apply wl_loadC one5)); (case hw => rfl); (case hx => rfl); (case hc => exact K5 _ (by (repeat (first | with_reducible exact Ext.refl _ | with_reducible assumption | refine Ext.trans ?_ (by with_reducible assumption) | refine Ext.alloc ?_ _ _ | refine Ext.drew ?_ | refine Ext.drewN ?_ _))))))
      go_roundw
      case rel =>
        exact ⟨i + 1, by rw [hsn]; first | rfl | exact congrArg (Value.int .u64) hor, int_eq (by omega), by omega, hE⟩
      case measure => simp [intOf]; omega
    · have hii : ¬ (i : Int) < n := by omega
      obtain rfl : i = n := by omega
      have hfull : L.take i = L := List.take_of_length_le (by omega)
      have hb9 := hbL i (Nat.le_refl _)
      rw [hfull] at hb9
      rw [hfull]
      have hb8 : bev L < 18446744073709551616 := Nat.lt_of_lt_of_le hb9 (show 256 ^ i ≤ 256 ^ 8 from Nat.pow_le_pow_right (by decide) (by omega))
      rw [wv_small hb8] at HS
      have HS2 := fun W (hW : Ext wr W) => HS W (hE.trans hW)
      clear HS
      have jw9 : IntKind.i64.wrap ((1 : Int) + i) = ((1 + i : Nat) : Int) := by rw [IntKind.wrap_i64]; omega
      have jw8 : IntKind.u16.wrap ((1 : Int) + i) = ((1 + i : Nat) : Int) := by rw [IntKind.wrap_u16]; omega
      obtain ⟨y, hy⟩ : ∃ y, Hid (bev L = y) := ⟨_, rfl⟩
      rw [hy.out] at HS2
      rw [hy.out]
      go_wp2_with (first | (go_at_call 268; refine (HS2 _ (by (repeat (first | with_reducible exact Ext.refl _ | with_reducible assumption | refine Ext.trans ?_ (by with_reducible assumption) | refine Ext.alloc ?_ _ _ | refine Ext.drew ?_ | refine Ext.drewN ?_ _)))).mono ?_; rintro e w9 ⟨rfl, hfin⟩))
      refine bodyPost_ret (results_none rfl _ _ _) rfl ?_
      rw [← hy.out] at hfin
      exact ⟨rfl, hfin⟩
set_option maxRecDepth 100000 in
set_option maxHeartbeats 6400000 in
theorem mOpPushZ (h : MRep own w g c V st (s :: sn) stale) (hst : st.frames = f :: rest) (hph : st.phase = 1) (ho : 95 ≤ f.opcode ∧ f.opcode ≤ 127) (hl2 : f.stack.length < 64) (hpc : f.pc ≤ 50000) (hf3 : immA f.opcode = 0) : Calls Hvah.prog 325 #[.pointer (some ⟨g, 0, none⟩)] w fun e w' => e = .returned (.tuple #[]) ∧ ∃ c', MRep own w' g c' V { st with frames := f.settle 0 [bev (cutA f.code (f.pc + 1) (immA f.opcode))] (1 + immA f.opcode) :: rest } (s :: sn) stale ∧ MStep own w own w' := by
  obtain ⟨hfr, hr7⟩ := h.frame hst
  have HR := fun W (hW : Ext w W) => mRun (h.ext hW) hst hph
  have HO := fun W (hW : Ext w W) => mOp (h.ext hW) hst hph
  have hnn : immA f.opcode ≤ 32 := by unfold immA; split <;> omega
  have HI := fun W => oImm f.opcode W (by omega)
  have hcl := hfr.ok.code
  have hvl : bev (cutA f.code (f.pc + 1) (immA f.opcode)) < P256 := by
    have hdig : Digits (cutA f.code (f.pc + 1) (immA f.opcode)) := fun d hd => by
      rcases List.mem_append.1 (List.mem_of_mem_take hd) with q | q
      · exact hfr.code.digits d (List.mem_of_mem_drop q)
      · rw [List.eq_of_mem_replicate q]; decide
    refine Nat.lt_of_lt_of_le (bev_lt _ hdig) ?_
    have hlen : (cutA f.code (f.pc + 1) (immA f.opcode)).length = immA f.opcode := by simp [cutA]
    rw [hlen, show P256 = 256 ^ 32 from by decide]
    exact Nat.pow_le_pow_right (by decide) hnn
  have HS := mSetP h hst 0 (1 + immA f.opcode) (bev (cutA f.code (f.pc + 1) (immA f.opcode))) (by omega) (by omega) hvl (by omega)
  clear hvl
  obtain ⟨co, cap, hcd, i1, i2, i3⟩ := hfr.code
  have KP : ∀ W, Ext w W → W.cell? ⟨g, 1803 + rest.length * 65 + 4, none⟩ = some (.int .u16 (f.pc : Nat)) := fun W hW => by rw [(h.v.blk.ext hW).cell (by omega), hfr.pc]
  have KC : ∀ W, Ext w W → W.cell? ⟨g, 1803 + rest.length * 65 + 53, none⟩ = some (.slice co f.code.length cap) := fun W hW => by rw [(h.v.blk.ext hW).cell (by omega), hcd]
  replace hcd : Hid (c (1803 + rest.length * 65 + 53) = .slice co f.code.length cap) := hcd
  have hpl : f.pc < f.code.length := by
    rcases Nat.lt_or_ge f.pc f.code.length with q | q
    · exact q
    · have : f.opcode = 0 := by unfold AFrame.opcode; rw [List.getD_eq_getElem?_getD, List.getElem?_eq_none q]; rfl
      omega
  rw [hf3] at HI HS ⊢
  have hcut : bev (cutA f.code (f.pc + 1) 0) = 0 := by unfold cutA; rw [List.take_zero]; rfl
  rw [hcut, wv0] at HS
  rw [hcut]
  clear hcut hf3 hnn
  obtain ⟨m, hm⟩ : ∃ m, Hid (f.code.length = m) := ⟨_, rfl⟩
  rw [hm.out] at KC hcl i1 hpl
  obtain ⟨P, hP⟩ : ∃ P, Hid (f.pc = P) := ⟨_, rfl⟩
  have hpc' : P ≤ 50000 := by rw [← hP.out]; exact hpc
  rw [hP.out] at KP hpl
  have j2 : (P : Int) + 1 ≤ m := by omega
  have j5 : (P : Int) + 1 ≤ cap := by omega
  have jw2 : IntKind.i64.wrap (P : Int) = P := by rw [IntKind.wrap_i64]; omega
  have jw3 : IntKind.i64.wrap ((P : Int) + 1) = (P : Int) + 1 := by rw [IntKind.wrap_i64]; omega
  obtain ⟨b, o, rfl, hbn, hbl, hbc⟩ := i3.spot (fun q => by rw [q] at hm; have := hm.out; simp at this; omega)
  clear i3 hfr hbc
  by_cases hcz : cap = P + 1
  · subst hcz
    go_enter Hvah.func325, Hvah.ntmps325
    go_wp2_with (first | (go_at_call 192; refine (HR _ (by (repeat (first | with_reducible exact Ext.refl _ | with_reducible assumption | refine Ext.trans ?_ (by with_reducible assumption) | refine Ext.alloc ?_ _ _ | refine Ext.drew ?_ | refine Ext.drewN ?_ _)))).mono ?_; rintro e w1 ⟨rfl, he⟩) | (go_at_call 117; refine (HO _ (by (repeat (first | with_reducible exact Ext.refl _ | with_reducible assumption | refine Ext.trans ?_ (by with_reducible assumption) | refine Ext.alloc ?_ _ _ | refine Ext.drew ?_ | refine Ext.drewN ?_ _)))).mono ?_; rintro e w1 ⟨rfl, he⟩) | (go_at_call 160; refine (HI _).mono ?_; rintro e w1 ⟨rfl, hww⟩; replace hww := hww.symm; subst hww) | ((with_reducible (refine Veil.out ?_; apply wl_loadC onel68)); (case hw => rfl); (case hx => rfl); (case hc => exact KP _ (by (repeat (first | with_reducible exact Ext.refl _ | with_reducible assumption | refine Ext.trans ?_ (by with_reducible assumption) | refine Ext.alloc ?_ _ _ | refine Ext.drew ?_ | refine Ext.drewN ?_ _))))) | ((with_reducible (refine Veil.out ?_; apply wl_loadC one32)); (case hw => first | rfl | go_simp); (case hx => rfl); (case hc => exact KC _ (by (repeat (first | with_reducible exact Ext.refl _ | with_reducible assumption | refine Ext.trans ?_ (by with_reducible assumption) | refine Ext.alloc ?_ _ _ | refine Ext.drew ?_ | refine Ext.drewN ?_ _))))) | ((with_reducible (refine Veil.out ?_; apply wlG_load1 one32)); (case hw => go_simp); (case hx => rfl); (case hB => exact h.v.blk.ext (by (repeat (first | with_reducible exact Ext.refl _ | with_reducible assumption | refine Ext.trans ?_ (by with_reducible assumption) | refine Ext.alloc ?_ _ _ | refine Ext.drew ?_ | refine Ext.drewN ?_ _)))); (case hi => omega)))
    have hE0 : Ext w w1 := by (repeat (first | with_reducible exact Ext.refl _ | with_reducible assumption | refine Ext.trans ?_ (by with_reducible assumption) | refine Ext.alloc ?_ _ _ | refine Ext.drew ?_ | refine Ext.drewN ?_ _))
    go_loopw [5, 47] (fun xv iv wr => xv = .int .u64 0 ∧ iv = .int .i64 0 ∧ Ext w wr) (fun _ _ _ => 0)
    case atStart => exact ⟨rfl, rfl, hE0⟩
    case round =>
      obtain ⟨rfl, rfl, hE⟩ := hrel
      have HS2 := fun W (hW : Ext wr W) => HS W (hE.trans hW)
      clear HS
      go_wp2_with (first | (go_at_call 268; refine (HS2 _ (by (repeat (first | with_reducible exact Ext.refl _ | with_reducible assumption | refine Ext.trans ?_ (by with_reducible assumption) | refine Ext.alloc ?_ _ _ | refine Ext.drew ?_ | refine Ext.drewN ?_ _)))).mono ?_; rintro e w9 ⟨rfl, hfin⟩))
      refine bodyPost_ret (results_none rfl _ _ _) rfl ?_
      exact ⟨rfl, hfin⟩
  · have j6 : ¬ cap = P + 1 := hcz
    go_enter Hvah.func325, Hvah.ntmps325
    go_wp2_with (first | (go_at_call 192; refine (HR _ (by (repeat (first | with_reducible exact Ext.refl _ | with_reducible assumption | refine Ext.trans ?_ (by with_reducible assumption) | refine Ext.alloc ?_ _ _ | refine Ext.drew ?_ | refine Ext.drewN ?_ _)))).mono ?_; rintro e w1 ⟨rfl, he⟩) | (go_at_call 117; refine (HO _ (by (repeat (first | with_reducible exact Ext.refl _ | with_reducible assumption | refine Ext.trans ?_ (by with_reducible assumption) | refine Ext.alloc ?_ _ _ | refine Ext.drew ?_ | refine Ext.drewN ?_ _)))).mono ?_; rintro e w1 ⟨rfl, he⟩) | (go_at_call 160; refine (HI _).mono ?_; rintro e w1 ⟨rfl, hww⟩; replace hww := hww.symm; subst hww) | ((with_reducible (refine Veil.out ?_; apply wl_loadC onel68)); (case hw => rfl); (case hx => rfl); (case hc => exact KP _ (by (repeat (first | with_reducible exact Ext.refl _ | with_reducible assumption | refine Ext.trans ?_ (by with_reducible assumption) | refine Ext.alloc ?_ _ _ | refine Ext.drew ?_ | refine Ext.drewN ?_ _))))) | ((with_reducible (refine Veil.out ?_; apply wl_loadC one32)); (case hw => first | rfl | go_simp); (case hx => rfl); (case hc => exact KC _ (by (repeat (first | with_reducible exact Ext.refl _ | with_reducible assumption | refine Ext.trans ?_ (by with_reducible assumption) | refine Ext.alloc ?_ _ _ | refine Ext.drew ?_ | refine Ext.drewN ?_ _))))) | ((with_reducible (refine Veil.out ?_; apply wlG_load1 one32)); (case hw => go_simp); (case hx => rfl); (case hB => exact h.v.blk.ext (by (repeat (first | with_reducible exact Ext.refl _ | with_reducible assumption | refine Ext.trans ?_ (by with_reducible assumption) | refine Ext.alloc ?_ _ _ | refine Ext.drew ?_ | refine Ext.drewN ?_ _)))); (case hi => omega)))
    have hE0 : Ext w w1 := by (repeat (first | with_reducible exact Ext.refl _ | with_reducible assumption | refine Ext.trans ?_ (by with_reducible assumption) | refine Ext.alloc ?_ _ _ | refine Ext.drew ?_ | refine Ext.drewN ?_ _))
    go_loopw [5, 47] (fun xv iv wr => xv = .int .u64 0 ∧ iv = .int .i64 0 ∧ Ext w wr) (fun _ _ _ => 0)
    case atStart => exact ⟨rfl, rfl, hE0⟩
    case round =>
      obtain ⟨rfl, rfl, hE⟩ := hrel
      have HS2 := fun W (hW : Ext wr W) => HS W (hE.trans hW)
      clear HS
      go_wp2_with (first | (go_at_call 268; refine (HS2 _ (by (repeat (first | with_reducible exact Ext.refl _ | with_reducible assumption | refine Ext.trans ?_ (by with_reducible assumption) | refine Ext.alloc ?_ _ _ | refine Ext.drew ?_ | refine Ext.drewN ?_ _)))).mono ?_; rintro e w9 ⟨rfl, hfin⟩))
      refine bodyPost_ret (results_none rfl _ _ _) rfl ?_
      exact ⟨rfl, hfin⟩
set_option maxRecDepth 100000 in
set_option maxHeartbeats 6400000 in
theorem mOpPushC (h : MRep own w g c V st (s :: sn) stale) (hst : st.frames = f :: rest) (hph : st.phase = 1) (ho : 95 ≤ f.opcode ∧ f.opcode ≤ 127) (hl2 : f.stack.length < 64) (hpc : f.pc ≤ 50000) (hf2 : f.code.length ≤ f.pc + 1) (hf3 : 0 < immA f.opcode) : Calls Hvah.prog 325 #[.pointer (some ⟨g, 0, none⟩)] w fun e w' => e = .returned (.tuple #[]) ∧ ∃ c', MRep own w' g c' V { st with frames := f.settle 0 [bev (cutA f.code (f.pc + 1) (immA f.opcode))] (1 + immA f.opcode) :: rest } (s :: sn) stale ∧ MStep own w own w' := by
  obtain ⟨hfr, hr7⟩ := h.frame hst
  have HR := fun W (hW : Ext w W) => mRun (h.ext hW) hst hph
  have HO := fun W (hW : Ext w W) => mOp (h.ext hW) hst hph
  have hnn : immA f.opcode ≤ 32 := by unfold immA; split <;> omega
  have HI := fun W => oImm f.opcode W (by omega)
  have hcl := hfr.ok.code
  have hvl : bev (cutA f.code (f.pc + 1) (immA f.opcode)) < P256 := by
    have hdig : Digits (cutA f.code (f.pc + 1) (immA f.opcode)) := fun d hd => by
      rcases List.mem_append.1 (List.mem_of_mem_take hd) with q | q
      · exact hfr.code.digits d (List.mem_of_mem_drop q)
      · rw [List.eq_of_mem_replicate q]; decide
    refine Nat.lt_of_lt_of_le (bev_lt _ hdig) ?_
    have hlen : (cutA f.code (f.pc + 1) (immA f.opcode)).length = immA f.opcode := by simp [cutA]
    rw [hlen, show P256 = 256 ^ 32 from by decide]
    exact Nat.pow_le_pow_right (by decide) hnn
  have HS := mSetP h hst 0 (1 + immA f.opcode) (bev (cutA f.code (f.pc + 1) (immA f.opcode))) (by omega) (by omega) hvl (by omega)
  clear hvl
  obtain ⟨co, cap, hcd, i1, i2, i3⟩ := hfr.code
  have KP : ∀ W, Ext w W → W.cell? ⟨g, 1803 + rest.length * 65 + 4, none⟩ = some (.int .u16 (f.pc : Nat)) := fun W hW => by rw [(h.v.blk.ext hW).cell (by omega), hfr.pc]
  have KC : ∀ W, Ext w W → W.cell? ⟨g, 1803 + rest.length * 65 + 53, none⟩ = some (.slice co f.code.length cap) := fun W hW => by rw [(h.v.blk.ext hW).cell (by omega), hcd]
  replace hcd : Hid (c (1803 + rest.length * 65 + 53) = .slice co f.code.length cap) := hcd
  have hdc := fun x hx => i3.lt x hx
  have hcut : cutA f.code (f.pc + 1) (immA f.opcode) = List.replicate (immA f.opcode) 0 := by
    unfold cutA
    rw [List.drop_of_length_le hf2, List.nil_append, List.take_replicate, Nat.min_self]
  have hbv : bev (List.replicate (immA f.opcode) 0) = 0 := by have := bev_zeros (immA f.opcode) []; rw [List.append_nil] at this; exact this
  rw [hcut, hbv] at HS
  rw [hcut, hbv]
  clear hcut hbv
  have HF := fun W => uFromBytes (List.replicate 32 0) W (by simp) (fun d hd => by rw [List.eq_of_mem_replicate hd]; decide)
  rw [show bev (List.replicate 32 0) = 0 from by decide] at HF
  have hrw := zero_row27
  obtain ⟨n, hn⟩ : ∃ n, Hid (immA f.opcode = n) := ⟨_, rfl⟩
  obtain ⟨m, hm⟩ : ∃ m, Hid (f.code.length = m) := ⟨_, rfl⟩
  rw [hn.out] at HI HS hf3 hnn 
  rw [hm.out] at KC hcd hf2 hcl i1 
  rw [hn.out]
  obtain ⟨P, hP⟩ : ∃ P, Hid (f.pc = P) := ⟨_, rfl⟩
  have hpc' : P ≤ 50000 := by rw [← hP.out]; exact hpc
  rw [hP.out] at KP hf2 
  have jw : IntKind.i64.wrap (n : Int) = n := by rw [IntKind.wrap_i64]; omega
  have jw2 : IntKind.i64.wrap (P : Int) = P := by rw [IntKind.wrap_i64]; omega
  have jw3 : IntKind.i64.wrap ((P : Int) + 1) = (P : Int) + 1 := by rw [IntKind.wrap_i64]; omega
  have jw4 : IntKind.i64.wrap ((P : Int) + 1 + n) = (P : Int) + 1 + n := by rw [IntKind.wrap_i64]; omega
  have jw5 : IntKind.i64.wrap ((32 : Int) - n) = ((32 - n : Nat) : Int) := by rw [IntKind.wrap_i64]; omega
  have jw9 : IntKind.i64.wrap ((1 : Int) + n) = ((1 + n : Nat) : Int) := by rw [IntKind.wrap_i64]; omega
  have jw8 : IntKind.u16.wrap ((1 : Int) + n) = ((1 + n : Nat) : Int) := by rw [IntKind.wrap_u16]; omega
  have q1 : ¬ (P : Int) + 1 < m := by omega
  clear hfr hdc
  by_cases hn8 : n ≤ 8
  · have j1 : (n : Int) ≤ 8 := by omega
    have j2 : ¬ (P : Int) + 1 + n ≤ m := by omega
    go_enter Hvah.func325, Hvah.ntmps325
    go_upto_region 13 with (first | (go_at_call 192; refine (HR _ (by (repeat (first | with_reducible exact Ext.refl _ | with_reducible assumption | refine Ext.trans ?_ (by with_reducible assumption) | refine Ext.alloc ?_ _ _ | refine Ext.drew ?_ | refine Ext.drewN ?_ _)))).mono ?_; rintro e w1 ⟨rfl, he⟩) | (go_at_call 117; refine (HO _ (by (repeat (first | with_reducible exact Ext.refl _ | with_reducible assumption | refine Ext.trans ?_ (by with_reducible assumption) | refine Ext.alloc ?_ _ _ | refine Ext.drew ?_ | refine Ext.drewN ?_ _)))).mono ?_; rintro e w1 ⟨rfl, he⟩) | (go_at_call 160; refine (HI _).mono ?_; rintro e w1 ⟨rfl, hww⟩; replace hww := hww.symm; subst hww) | ((with_reducible (refine Veil.out ?_; apply wl_loadC onel68)); (case hw => rfl); (case hx => rfl); (case hc => exact KP _ (by (repeat (first | with_reducible exact Ext.refl _ | with_reducible assumption | refine Ext.trans ?_ (by with_reducible assumption) | refine Ext.alloc ?_ _ _ | refine Ext.drew ?_ | refine Ext.drewN ?_ _))))) | ((with_reducible (refine Veil.out ?_; apply wl_loadC one32)); (case hw => first | rfl | go_simp); (case hx => rfl); (case hc => exact KC _ (by (repeat (first | with_reducible exact Ext.refl _ | with_reducible assumption | refine Ext.trans ?_ (by with_reducible assumption) | refine Ext.alloc ?_ _ _ | refine Ext.drew ?_ | refine Ext.drewN ?_ _))))) | ((with_reducible (refine Veil.out ?_; apply wlG_load1 one32)); (case hw => go_simp); (case hx => rfl); (case hB => exact h.v.blk.ext (by (repeat (first | with_reducible exact Ext.refl _ | with_reducible assumption | refine Ext.trans ?_ (by with_reducible assumption) | refine Ext.alloc ?_ _ _ | refine Ext.drew ?_ | refine Ext.drewN ?_ _)))); (case hi => omega)) | ((with_reducible (refine Veil.out ?_; apply wl_allocB (n := 32) z27)); (case hn => rfl); rintro B5 W5 e5 b5 g5))
    have bq := fun W (hW : Ext W5 W) => b5.ext hW
    go_wp2_with (first | ((with_reducible (refine Veil.out ?_; apply wl_loadC onel68)); (case hw => rfl); (case hx => rfl); (case hc => exact KP _ (by (repeat (first | with_reducible exact Ext.refl _ | with_reducible assumption | refine Ext.trans ?_ (by with_reducible assumption) | refine Ext.alloc ?_ _ _ | refine Ext.drew ?_ | refine Ext.drewN ?_ _))))) | ((with_reducible (refine Veil.out ?_; apply wl_loadC one32)); (case hw => first | rfl | go_simp); (case hx => rfl); (case hc => exact KC _ (by (repeat (first | with_reducible exact Ext.refl _ | with_reducible assumption | refine Ext.trans ?_ (by with_reducible assumption) | refine Ext.alloc ?_ _ _ | refine Ext.drew ?_ | refine Ext.drewN ?_ _))))) | ((with_reducible (refine Veil.out ?_; apply wl_loadRow rt27)); (case hx => rfl); (case hB => exact bq _ (by (repeat (first | with_reducible exact Ext.refl _ | with_reducible assumption | refine Ext.trans ?_ (by with_reducible assumption) | refine Ext.alloc ?_ _ _ | refine Ext.drew ?_ | refine Ext.drewN ?_ _)))); (case hi => decide); rw [hrw]) | (go_at_call 92; refine (HF _).mono ?_; rintro e w1 ⟨rfl, he⟩) | (go_at_call 268; refine (HS _ (by (repeat (first | with_reducible exact Ext.refl _ | with_reducible assumption | refine Ext.trans ?_ (by with_reducible assumption) | refine Ext.alloc ?_ _ _ | refine Ext.drew ?_ | refine Ext.drewN ?_ _)))).mono ?_; rintro e w9 ⟨rfl, hfin⟩))
    go_end0
    exact ⟨rfl, hfin⟩
  · have j1 : ¬ (n : Int) ≤ 8 := by omega
    go_enter Hvah.func325, Hvah.ntmps325
    go_upto_region 13 with (first | (go_at_call 192; refine (HR _ (by (repeat (first | with_reducible exact Ext.refl _ | with_reducible assumption | refine Ext.trans ?_ (by with_reducible assumption) | refine Ext.alloc ?_ _ _ | refine Ext.drew ?_ | refine Ext.drewN ?_ _)))).mono ?_; rintro e w1 ⟨rfl, he⟩) | (go_at_call 117; refine (HO _ (by (repeat (first | with_reducible exact Ext.refl _ | with_reducible assumption | refine Ext.trans ?_ (by with_reducible assumption) | refine Ext.alloc ?_ _ _ | refine Ext.drew ?_ | refine Ext.drewN ?_ _)))).mono ?_; rintro e w1 ⟨rfl, he⟩) | (go_at_call 160; refine (HI _).mono ?_; rintro e w1 ⟨rfl, hww⟩; replace hww := hww.symm; subst hww) | ((with_reducible (refine Veil.out ?_; apply wl_loadC onel68)); (case hw => rfl); (case hx => rfl); (case hc => exact KP _ (by (repeat (first | with_reducible exact Ext.refl _ | with_reducible assumption | refine Ext.trans ?_ (by with_reducible assumption) | refine Ext.alloc ?_ _ _ | refine Ext.drew ?_ | refine Ext.drewN ?_ _))))) | ((with_reducible (refine Veil.out ?_; apply wl_loadC one32)); (case hw => first | rfl | go_simp); (case hx => rfl); (case hc => exact KC _ (by (repeat (first | with_reducible exact Ext.refl _ | with_reducible assumption | refine Ext.trans ?_ (by with_reducible assumption) | refine Ext.alloc ?_ _ _ | refine Ext.drew ?_ | refine Ext.drewN ?_ _))))) | ((with_reducible (refine Veil.out ?_; apply wlG_load1 one32)); (case hw => go_simp); (case hx => rfl); (case hB => exact h.v.blk.ext (by (repeat (first | with_reducible exact Ext.refl _ | with_reducible assumption | refine Ext.trans ?_ (by with_reducible assumption) | refine Ext.alloc ?_ _ _ | refine Ext.drew ?_ | refine Ext.drewN ?_ _)))); (case hi => omega)) | ((with_reducible (refine Veil.out ?_; apply wl_allocB (n := 32) z27)); (case hn => rfl); rintro B5 W5 e5 b5 g5))
    have bq := fun W (hW : Ext W5 W) => b5.ext hW
    go_wp2_with (first | ((with_reducible (refine Veil.out ?_; apply wl_loadC onel68)); (case hw => rfl); (case hx => rfl); (case hc => exact KP _ (by (repeat (first | with_reducible exact Ext.refl _ | with_reducible assumption | refine Ext.trans ?_ (by with_reducible assumption) | refine Ext.alloc ?_ _ _ | refine Ext.drew ?_ | refine Ext.drewN ?_ _))))) | ((with_reducible (refine Veil.out ?_; apply wl_loadC one32)); (case hw => first | rfl | go_simp); (case hx => rfl); (case hc => exact KC _ (by (repeat (first | with_reducible exact Ext.refl _ | with_reducible assumption | refine Ext.trans ?_ (by with_reducible assumption) | refine Ext.alloc ?_ _ _ | refine Ext.drew ?_ | refine Ext.drewN ?_ _))))) | ((with_reducible (refine Veil.out ?_; apply wl_loadRow rt27)); (case hx => rfl); (case hB => exact bq _ (by (repeat (first | with_reducible exact Ext.refl _ | with_reducible assumption | refine Ext.trans ?_ (by with_reducible assumption) | refine Ext.alloc ?_ _ _ | refine Ext.drew ?_ | refine Ext.drewN ?_ _)))); (case hi => decide); rw [hrw]) | (go_at_call 92; refine (HF _).mono ?_; rintro e w1 ⟨rfl, he⟩) | (go_at_call 268; refine (HS _ (by (repeat (first | with_reducible exact Ext.refl _ | with_reducible assumption | refine Ext.trans ?_ (by with_reducible assumption) | refine Ext.alloc ?_ _ _ | refine Ext.drew ?_ | refine Ext.drewN ?_ _)))).mono ?_; rintro e w9 ⟨rfl, hfin⟩))
    go_end0
    exact ⟨rfl, hfin⟩
set_option maxRecDepth 100000 in
set_option maxHeartbeats 6400000 in
theorem mOpPushB (h : MRep own w g c V st (s :: sn) stale) (hst : st.frames = f :: rest) (hph : st.phase = 1) (ho : 95 ≤ f.opcode ∧ f.opcode ≤ 127) (hl2 : f.stack.length < 64) (hpc : f.pc ≤ 50000) (hf2 : f.pc + 1 < f.code.length) (hf4 : immA f.opcode ≤ 8 → f.code.length < f.pc + 1 + immA f.opcode) (hf3 : 0 < immA f.opcode) : Calls Hvah.prog 325 #[.pointer (some ⟨g, 0, none⟩)] w fun e w' => e = .returned (.tuple #[]) ∧ ∃ c', MRep own w' g c' V { st with frames := f.settle 0 [bev (cutA f.code (f.pc + 1) (immA f.opcode))] (1 + immA f.opcode) :: rest } (s :: sn) stale ∧ MStep own w own w' := by
  obtain ⟨hfr, hr7⟩ := h.frame hst
  have HR := fun W (hW : Ext w W) => mRun (h.ext hW) hst hph
  have HO := fun W (hW : Ext w W) => mOp (h.ext hW) hst hph
  have hnn : immA f.opcode ≤ 32 := by unfold immA; split <;> omega
  have HI := fun W => oImm f.opcode W (by omega)
  have hcl := hfr.ok.code
  have hvl : bev (cutA f.code (f.pc + 1) (immA f.opcode)) < P256 := by
    have hdig : Digits (cutA f.code (f.pc + 1) (immA f.opcode)) := fun d hd => by
      rcases List.mem_append.1 (List.mem_of_mem_take hd) with q | q
      · exact hfr.code.digits d (List.mem_of_mem_drop q)
      · rw [List.eq_of_mem_replicate q]; decide
    refine Nat.lt_of_lt_of_le (bev_lt _ hdig) ?_
    have hlen : (cutA f.code (f.pc + 1) (immA f.opcode)).length = immA f.opcode := by simp [cutA]
    rw [hlen, show P256 = 256 ^ 32 from by decide]
    exact Nat.pow_le_pow_right (by decide) hnn
  have HS := mSetP h hst 0 (1 + immA f.opcode) (bev (cutA f.code (f.pc + 1) (immA f.opcode))) (by omega) (by omega) hvl (by omega)
  clear hvl
  obtain ⟨co, cap, hcd, i1, i2, i3⟩ := hfr.code
  have KP : ∀ W, Ext w W → W.cell? ⟨g, 1803 + rest.length * 65 + 4, none⟩ = some (.int .u16 (f.pc : Nat)) := fun W hW => by rw [(h.v.blk.ext hW).cell (by omega), hfr.pc]
  have KC : ∀ W, Ext w W → W.cell? ⟨g, 1803 + rest.length * 65 + 53, none⟩ = some (.slice co f.code.length cap) := fun W hW => by rw [(h.v.blk.ext hW).cell (by omega), hcd]
  replace hcd : Hid (c (1803 + rest.length * 65 + 53) = .slice co f.code.length cap) := hcd
  have hdc := fun x hx => i3.lt x hx
  have hbv : bev (cutA f.code (f.pc + 1) (immA f.opcode)) = bev (List.replicate (32 - immA f.opcode) 0 ++ (f.code.drop (f.pc + 1) ++ List.replicate (immA f.opcode) 0).take (immA f.opcode)) := (bev_zeros _ _).symm
  rw [hbv] at HS
  rw [hbv]
  clear hbv
  have HF := fun W => uFromBytes (List.replicate (32 - immA f.opcode) 0 ++ (f.code.drop (f.pc + 1) ++ List.replicate (immA f.opcode) 0).take (immA f.opcode)) W (by simp; omega) (fun d hd => by
    rcases List.mem_append.1 hd with q | q
    · rw [List.eq_of_mem_replicate q]; decide
    · rcases List.mem_append.1 (List.mem_of_mem_take q) with q | q
      · exact hdc d (List.mem_of_mem_drop q)
      · rw [List.eq_of_mem_replicate q]; decide)
  have hrw := cut_rowN (f.code.drop (f.pc + 1)) (immA f.opcode) (min (f.code.drop (f.pc + 1)).length (immA f.opcode)) hnn rfl
  obtain ⟨b, o, rfl, hb, hrow⟩ := i3.rowIn (fun q => by rw [q] at hf2; cases hf2)
  have hr := fun W (hW : Ext w W) => ((hrow (f.pc + 1)).ext hb hW).pre (min (f.code.drop (f.pc + 1)).length (immA f.opcode))
  clear hrow
  have hrs : (bcells ((f.code.drop (f.pc + 1)).take (min (f.code.drop (f.pc + 1)).length (immA f.opcode)))).toArray.size = min (f.code.length - (f.pc + 1)) (immA f.opcode) * 1 := by rw [List.size_toArray, bcells_length, List.length_take, List.length_drop]; omega
  obtain ⟨K, hK9⟩ : ∃ K, Hid ((bcells ((f.code.drop (f.pc + 1)).take (min (f.code.drop (f.pc + 1)).length (immA f.opcode)))).toArray = K) := ⟨_, rfl⟩
  have hK1 : Ones K := by rw [← hK9.out]; exact bcells_ones _
  rw [hK9.out] at hr hrs hrw
  have hT9 : ∃ T : List Nat, List.replicate (32 - immA f.opcode) 0 ++ List.take (immA f.opcode) (List.drop (f.pc + 1) f.code ++ List.replicate (immA f.opcode) 0) = T := ⟨_, rfl⟩
  obtain ⟨T, hT8⟩ := hT9
  have hT : Hid (List.replicate (32 - immA f.opcode) 0 ++ List.take (immA f.opcode) (List.drop (f.pc + 1) f.code ++ List.replicate (immA f.opcode) 0) = T) := hT8
  clear hT8
  rw [hT.out] at HS HF hrw
  rw [hT.out]
  obtain ⟨n, hn⟩ : ∃ n, Hid (immA f.opcode = n) := ⟨_, rfl⟩
  obtain ⟨m, hm⟩ : ∃ m, Hid (f.code.length = m) := ⟨_, rfl⟩
  rw [hn.out] at HI HS hf3 hnn hf4 hrs hrw
  rw [hm.out] at KC hcd hf2 hcl i1 hf4 hrs
  rw [hn.out]
  obtain ⟨P, hP⟩ : ∃ P, Hid (f.pc = P) := ⟨_, rfl⟩
  have hpc' : P ≤ 50000 := by rw [← hP.out]; exact hpc
  rw [hP.out] at KP hf2 hf4 hrs hr
  have jw : IntKind.i64.wrap (n : Int) = n := by rw [IntKind.wrap_i64]; omega
  have jw2 : IntKind.i64.wrap (P : Int) = P := by rw [IntKind.wrap_i64]; omega
  have jw3 : IntKind.i64.wrap ((P : Int) + 1) = (P : Int) + 1 := by rw [IntKind.wrap_i64]; omega
  have jw4 : IntKind.i64.wrap ((P : Int) + 1 + n) = (P : Int) + 1 + n := by rw [IntKind.wrap_i64]; omega
  have jw5 : IntKind.i64.wrap ((32 : Int) - n) = ((32 - n : Nat) : Int) := by rw [IntKind.wrap_i64]; omega
  have jw9 : IntKind.i64.wrap ((1 : Int) + n) = ((1 + n : Nat) : Int) := by rw [IntKind.wrap_i64]; omega
  have jw8 : IntKind.u16.wrap ((1 : Int) + n) = ((1 + n : Nat) : Int) := by rw [IntKind.wrap_u16]; omega
  have q1 : (P : Int) + 1 < m := by omega
  have q2 : (P : Int) + 1 ≤ m := by omega
  have q0 : (0 : Int) ≤ (P : Int) + 1 := by omega
  have q3 : (m : Int) ≤ cap := by omega
  have q4 : ¬ cap = P + 1 := by omega
  have q5 : ((32 - n : Nat) : Int) ≤ 32 := by omega
  have q6 : ¬ 32 - n = 32 := by omega
  have q7 : (32 : Int) - n ≤ 32 := by omega
  have q8 : ¬ 32 = 32 - n := by omega
  clear hfr hdc
  by_cases hn8 : n ≤ 8
  · have j1 : (n : Int) ≤ 8 := by omega
    have j2 : ¬ (P : Int) + 1 + n ≤ m := by omega
    go_enter Hvah.func325, Hvah.ntmps325
    go_upto_region 15 with (first | (go_at_call 192; refine (HR _ (by (repeat (first | with_reducible exact Ext.refl _ | with_reducible assumption | refine Ext.trans ?_ (by with_reducible assumption) | refine Ext.alloc ?_ _ _ | refine Ext.drew ?_ | refine Ext.drewN ?_ _)))).mono ?_; rintro e w1 ⟨rfl, he⟩) | (go_at_call 117; refine (HO _ (by (repeat (first | with_reducible exact Ext.refl _ | with_reducible assumption | refine Ext.trans ?_ (by with_reducible assumption) | refine Ext.alloc ?_ _ _ | refine Ext.drew ?_ | refine Ext.drewN ?_ _)))).mono ?_; rintro e w1 ⟨rfl, he⟩) | (go_at_call 160; refine (HI _).mono ?_; rintro e w1 ⟨rfl, hww⟩; replace hww := hww.symm; subst hww) | ((with_reducible (refine Veil.out ?_; apply wl_loadC onel68)); (case hw => rfl); (case hx => rfl); (case hc => exact KP _ (by (repeat (first | with_reducible exact Ext.refl _ | with_reducible assumption | refine Ext.trans ?_ (by with_reducible assumption) | refine Ext.alloc ?_ _ _ | refine Ext.drew ?_ | refine Ext.drewN ?_ _))))) | ((with_reducible (refine Veil.out ?_; apply wl_loadC one32)); (case hw => first | rfl | go_simp); (case hx => rfl); (case hc => exact KC _ (by (repeat (first | with_reducible exact Ext.refl _ | with_reducible assumption | refine Ext.trans ?_ (by with_reducible assumption) | refine Ext.alloc ?_ _ _ | refine Ext.drew ?_ | refine Ext.drewN ?_ _))))) | ((with_reducible (refine Veil.out ?_; apply wlG_load1 one32)); (case hw => go_simp); (case hx => rfl); (case hB => exact h.v.blk.ext (by (repeat (first | with_reducible exact Ext.refl _ | with_reducible assumption | refine Ext.trans ?_ (by with_reducible assumption) | refine Ext.alloc ?_ _ _ | refine Ext.drew ?_ | refine Ext.drewN ?_ _)))); (case hi => omega)) | ((with_reducible (refine Veil.out ?_; apply wl_allocB (n := 32) z27)); (case hn => rfl); rintro B5 W5 e5 b5 g5))
    have hgB : ¬ g = B5 := fun q => by have := h.v.blk.lt; have := Nat.le_trans (Ext.size (show Ext w _ by (repeat (first | with_reducible exact Ext.refl _ | with_reducible assumption | refine Ext.trans ?_ (by with_reducible assumption) | refine Ext.alloc ?_ _ _ | refine Ext.drew ?_ | refine Ext.drewN ?_ _)))) g5; omega
    refine w_ext ?_
    rintro W0 hW0
    refine wp_region_held_drew (S := fun w' => Mod (fun x => x = B5) W0 w') (by kernel_rfl) (Mod.refl _ _).drew (fun hHeld => ?_)
    have HH : Hid (Mod (fun x => x = B5) W0 _) := hHeld
    clear hHeld
    refine wpAnyH_take (i := 0) (v := ?_) rfl (by kernel_rfl) (by kernel_rfl) (by kernel_rfl) (fun _ _ _ h => h) (Or.inl ⟨by rfl, ?_⟩) HH.out ?_
    rotate_left
    · intro w hSw; go_simp; try with_reducible rfl
    change wpAnyH _ _ _ _ _ _ _ (Act.put _ (some 78) _) _
    simp only [Act.put, List.setIfInBounds_toArray, List.set_cons_zero, List.set_cons_succ]
    refine wpAnyH_take (i := 1) (v := ?_) rfl (by kernel_rfl) (by kernel_rfl) (by kernel_rfl) (fun _ _ _ h => h) (Or.inl ⟨by rfl, ?_⟩) HH.out ?_
    rotate_left
    · intro w hSw; go_simp; try with_reducible rfl
    change wpAnyH _ _ _ _ _ _ _ (Act.put _ (some 79) _) _
    simp only [Act.put, List.setIfInBounds_toArray, List.set_cons_zero, List.set_cons_succ]
    refine wpAnyH_take (i := 2) (v := ?_) rfl (by kernel_rfl) (by kernel_rfl) (by kernel_rfl) (fun _ _ _ h => h) (Or.inl ⟨by rfl, ?_⟩) HH.out ?_
    rotate_left
    · intro w hSw; go_simp; try with_reducible rfl
    change wpAnyH _ _ _ _ _ _ _ (Act.put _ (some 80) _) _
    simp only [Act.put, List.setIfInBounds_toArray, List.set_cons_zero, List.set_cons_succ]
    refine wpAnyH_take (i := 3) (v := ?_) rfl (by kernel_rfl) (by kernel_rfl) (by kernel_rfl) (fun _ _ _ h => h) (Or.inl ⟨by rfl, ?_⟩) HH.out ?_
    rotate_left
    · intro w hSw; go_simp; try with_reducible rfl
    change wpAnyH _ _ _ _ _ _ _ (Act.put _ (some 81) _) _
    simp only [Act.put, List.setIfInBounds_toArray, List.set_cons_zero, List.set_cons_succ]
    refine wpAnyH_take (i := 4) (v := ?_) rfl (by kernel_rfl) (by kernel_rfl) (by kernel_rfl) (fun _ _ _ h => h) (Or.inl ⟨by rfl, ?_⟩) HH.out ?_
    rotate_left
    · intro w hSw; go_simp; try with_reducible rfl
    change wpAnyH _ _ _ _ _ _ _ (Act.put _ (some 82) _) _
    simp only [Act.put, List.setIfInBounds_toArray, List.set_cons_zero, List.set_cons_succ]
    refine wpAnyH_take (i := 5) (v := ?_) rfl (by kernel_rfl) (by kernel_rfl) (by kernel_rfl) (fun _ _ _ h => h) (Or.inl ⟨by rfl, ?_⟩) HH.out ?_
    rotate_left
    · intro w hSw; go_simp; try with_reducible rfl
    change wpAnyH _ _ _ _ _ _ _ (Act.put _ (some 83) _) _
    simp only [Act.put, List.setIfInBounds_toArray, List.set_cons_zero, List.set_cons_succ]
    refine wpAnyH_take (i := 6) rfl (by kernel_rfl) (by kernel_rfl) (by kernel_rfl) (fun _ _ _ h => h) (yieldsIf_load1 (by rfl) _ _ rfl _ _ rfl one32 _ (fun w hSw => by rw [((h.v.blk.ext (show Ext _ W0 from by (repeat (first | with_reducible exact Ext.refl _ | with_reducible assumption | refine Ext.trans ?_ (by with_reducible assumption) | refine Ext.alloc ?_ _ _ | refine Ext.drew ?_ | refine Ext.drewN ?_ _)))).mod hSw hgB).cell (by omega), hcd.out])) HH.out ?_
    change wpAnyH _ _ _ _ _ _ _ (Act.put _ (some 84) _) _
    simp only [Act.put, List.setIfInBounds_toArray, List.set_cons_zero, List.set_cons_succ]
    refine wpAnyH_take (i := 7) (v := ?_) rfl (by kernel_rfl) (by kernel_rfl) (by kernel_rfl) (fun _ _ _ h => h) (Or.inl ⟨by rfl, ?_⟩) HH.out ?_
    rotate_left
    · intro w hSw; go_simp; try with_reducible rfl
    change wpAnyH _ _ _ _ _ _ _ (Act.put _ (some 85) _) _
    simp only [Act.put, List.setIfInBounds_toArray, List.set_cons_zero, List.set_cons_succ]
    refine wpAnyH_take (i := 8) (v := ?_) rfl (by kernel_rfl) (by kernel_rfl) (by kernel_rfl) (fun _ _ _ h => h) (Or.inl ⟨by rfl, ?_⟩) HH.out ?_
    rotate_left
    · intro w hSw; go_simp; try with_reducible rfl
    change wpAnyH _ _ _ _ _ _ _ (Act.put _ (some 86) _) _
    simp only [Act.put, List.setIfInBounds_toArray, List.set_cons_zero, List.set_cons_succ]
    refine wpAnyH_ready (rs := [9]) (by kernel_rfl) (by simp) ?_
    refine AllReadyH.cons rfl (fun K hK => ?_) AllReadyH.nil
    refine step_any rfl (op_copyS (k := min (m - (P + 1)) n) rfl (by kernel_rfl) u8map rfl rfl (b5.ext (by (repeat (first | with_reducible exact Ext.refl _ | with_reducible assumption | refine Ext.trans ?_ (by with_reducible assumption) | refine Ext.alloc ?_ _ _ | refine Ext.drew ?_ | refine Ext.drewN ?_ _)))) (hr _ (by (repeat (first | with_reducible exact Ext.refl _ | with_reducible assumption | refine Ext.trans ?_ (by with_reducible assumption) | refine Ext.alloc ?_ _ _ | refine Ext.drew ?_ | refine Ext.drewN ?_ _)))) (by omega) hrs (by omega) hK1 ?_)
    intro W8 b8 m8
    refine hK.out _ _ ?_ (fun hHeld => ?_)
    · exact HH.out.trans m8
    clear hK K HH
    have HH : Hid (Mod (fun x => x = B5) W0 _) := hHeld
    clear hHeld
    change wpAnyH _ _ _ _ _ _ _ (Act.put _ (some 87) _) _
    simp only [Act.put, List.setIfInBounds_toArray, List.set_cons_zero, List.set_cons_succ]
    refine wpAnyH_done (by kernel_rfl) ?_ _
    have hm8 := HH.out
    have hE8 : Ext w W8 := Ext.trans_mod (show Ext w W0 by (repeat (first | with_reducible exact Ext.refl _ | with_reducible assumption | refine Ext.trans ?_ (by with_reducible assumption) | refine Ext.alloc ?_ _ _ | refine Ext.drew ?_ | refine Ext.drewN ?_ _))) hm8 (fun i hi => by have hi2 : i = B5 := hi; rw [hi2]; exact Nat.le_trans (Ext.size (show Ext w _ by (repeat (first | with_reducible exact Ext.refl _ | with_reducible assumption | refine Ext.trans ?_ (by with_reducible assumption) | refine Ext.alloc ?_ _ _ | refine Ext.drew ?_ | refine Ext.drewN ?_ _)))) g5)
    clear HH m8 hm8
    have bq := fun W (hW : Ext W8 W) => b8.ext hW
    go_wp2_with (first | ((with_reducible (refine Veil.out ?_; apply wl_loadRow rt27)); (case hx => rfl); (case hB => exact bq _ (by (repeat (first | with_reducible exact Ext.refl _ | with_reducible assumption | refine Ext.trans ?_ (by with_reducible assumption) | refine Ext.alloc ?_ _ _ | refine Ext.drew ?_ | refine Ext.drewN ?_ _)))); (case hi => decide); rw [hrw]) | (go_at_call 92; refine (HF _).mono ?_; rintro e w1 ⟨rfl, he⟩) | (go_at_call 268; refine (HS _ (by (repeat (first | with_reducible exact Ext.refl _ | with_reducible assumption | refine Ext.trans ?_ (by with_reducible assumption) | refine Ext.alloc ?_ _ _ | refine Ext.drew ?_ | refine Ext.drewN ?_ _)))).mono ?_; rintro e w9 ⟨rfl, hfin⟩))
    go_end0
    exact ⟨rfl, hfin⟩
  · have j1 : ¬ (n : Int) ≤ 8 := by omega
    go_enter Hvah.func325, Hvah.ntmps325
    go_upto_region 15 with (first | (go_at_call 192; refine (HR _ (by (repeat (first | with_reducible exact Ext.refl _ | with_reducible assumption | refine Ext.trans ?_ (by with_reducible assumption) | refine Ext.alloc ?_ _ _ | refine Ext.drew ?_ | refine Ext.drewN ?_ _)))).mono ?_; rintro e w1 ⟨rfl, he⟩) | (go_at_call 117; refine (HO _ (by (repeat (first | with_reducible exact Ext.refl _ | with_reducible assumption | refine Ext.trans ?_ (by with_reducible assumption) | refine Ext.alloc ?_ _ _ | refine Ext.drew ?_ | refine Ext.drewN ?_ _)))).mono ?_; rintro e w1 ⟨rfl, he⟩) | (go_at_call 160; refine (HI _).mono ?_; rintro e w1 ⟨rfl, hww⟩; replace hww := hww.symm; subst hww) | ((with_reducible (refine Veil.out ?_; apply wl_loadC onel68)); (case hw => rfl); (case hx => rfl); (case hc => exact KP _ (by (repeat (first | with_reducible exact Ext.refl _ | with_reducible assumption | refine Ext.trans ?_ (by with_reducible assumption) | refine Ext.alloc ?_ _ _ | refine Ext.drew ?_ | refine Ext.drewN ?_ _))))) | ((with_reducible (refine Veil.out ?_; apply wl_loadC one32)); (case hw => first | rfl | go_simp); (case hx => rfl); (case hc => exact KC _ (by (repeat (first | with_reducible exact Ext.refl _ | with_reducible assumption | refine Ext.trans ?_ (by with_reducible assumption) | refine Ext.alloc ?_ _ _ | refine Ext.drew ?_ | refine Ext.drewN ?_ _))))) | ((with_reducible (refine Veil.out ?_; apply wlG_load1 one32)); (case hw => go_simp); (case hx => rfl); (case hB => exact h.v.blk.ext (by (repeat (first | with_reducible exact Ext.refl _ | with_reducible assumption | refine Ext.trans ?_ (by with_reducible assumption) | refine Ext.alloc ?_ _ _ | refine Ext.drew ?_ | refine Ext.drewN ?_ _)))); (case hi => omega)) | ((with_reducible (refine Veil.out ?_; apply wl_allocB (n := 32) z27)); (case hn => rfl); rintro B5 W5 e5 b5 g5))
    have hgB : ¬ g = B5 := fun q => by have := h.v.blk.lt; have := Nat.le_trans (Ext.size (show Ext w _ by (repeat (first | with_reducible exact Ext.refl _ | with_reducible assumption | refine Ext.trans ?_ (by with_reducible assumption) | refine Ext.alloc ?_ _ _ | refine Ext.drew ?_ | refine Ext.drewN ?_ _)))) g5; omega
    refine w_ext ?_
    rintro W0 hW0
    refine wp_region_held_drew (S := fun w' => Mod (fun x => x = B5) W0 w') (by kernel_rfl) (Mod.refl _ _).drew (fun hHeld => ?_)
    have HH : Hid (Mod (fun x => x = B5) W0 _) := hHeld
    clear hHeld
    refine wpAnyH_take (i := 0) (v := ?_) rfl (by kernel_rfl) (by kernel_rfl) (by kernel_rfl) (fun _ _ _ h => h) (Or.inl ⟨by rfl, ?_⟩) HH.out ?_
    rotate_left
    · intro w hSw; go_simp; try with_reducible rfl
    change wpAnyH _ _ _ _ _ _ _ (Act.put _ (some 78) _) _
    simp only [Act.put, List.setIfInBounds_toArray, List.set_cons_zero, List.set_cons_succ]
    refine wpAnyH_take (i := 1) (v := ?_) rfl (by kernel_rfl) (by kernel_rfl) (by kernel_rfl) (fun _ _ _ h => h) (Or.inl ⟨by rfl, ?_⟩) HH.out ?_
    rotate_left
    · intro w hSw; go_simp; try with_reducible rfl
    change wpAnyH _ _ _ _ _ _ _ (Act.put _ (some 79) _) _
    simp only [Act.put, List.setIfInBounds_toArray, List.set_cons_zero, List.set_cons_succ]
    refine wpAnyH_take (i := 2) (v := ?_) rfl (by kernel_rfl) (by kernel_rfl) (by kernel_rfl) (fun _ _ _ h => h) (Or.inl ⟨by rfl, ?_⟩) HH.out ?_
    rotate_left
    · intro w hSw; go_simp; try with_reducible rfl
    change wpAnyH _ _ _ _ _ _ _ (Act.put _ (some 80) _) _
    simp only [Act.put, List.setIfInBounds_toArray, List.set_cons_zero, List.set_cons_succ]
    refine wpAnyH_take (i := 3) (v := ?_) rfl (by kernel_rfl) (by kernel_rfl) (by kernel_rfl) (fun _ _ _ h => h) (Or.inl ⟨by rfl, ?_⟩) HH.out ?_
    rotate_left
    · intro w hSw; go_simp; try with_reducible rfl
    change wpAnyH _ _ _ _ _ _ _ (Act.put _ (some 81) _) _
    simp only [Act.put, List.setIfInBounds_toArray, List.set_cons_zero, List.set_cons_succ]
    refine wpAnyH_take (i := 4) (v := ?_) rfl (by kernel_rfl) (by kernel_rfl) (by kernel_rfl) (fun _ _ _ h => h) (Or.inl ⟨by rfl, ?_⟩) HH.out ?_
    rotate_left
    · intro w hSw; go_simp; try with_reducible rfl
    change wpAnyH _ _ _ _ _ _ _ (Act.put _ (some 82) _) _
    simp only [Act.put, List.setIfInBounds_toArray, List.set_cons_zero, List.set_cons_succ]
    refine wpAnyH_take (i := 5) (v := ?_) rfl (by kernel_rfl) (by kernel_rfl) (by kernel_rfl) (fun _ _ _ h => h) (Or.inl ⟨by rfl, ?_⟩) HH.out ?_
    rotate_left
    · intro w hSw; go_simp; try with_reducible rfl
    change wpAnyH _ _ _ _ _ _ _ (Act.put _ (some 83) _) _
    simp only [Act.put, List.setIfInBounds_toArray, List.set_cons_zero, List.set_cons_succ]
    refine wpAnyH_take (i := 6) rfl (by kernel_rfl) (by kernel_rfl) (by kernel_rfl) (fun _ _ _ h => h) (yieldsIf_load1 (by rfl) _ _ rfl _ _ rfl one32 _ (fun w hSw => by rw [((h.v.blk.ext (show Ext _ W0 from by (repeat (first | with_reducible exact Ext.refl _ | with_reducible assumption | refine Ext.trans ?_ (by with_reducible assumption) | refine Ext.alloc ?_ _ _ | refine Ext.drew ?_ | refine Ext.drewN ?_ _)))).mod hSw hgB).cell (by omega), hcd.out])) HH.out ?_
    change wpAnyH _ _ _ _ _ _ _ (Act.put _ (some 84) _) _
    simp only [Act.put, List.setIfInBounds_toArray, List.set_cons_zero, List.set_cons_succ]
    refine wpAnyH_take (i := 7) (v := ?_) rfl (by kernel_rfl) (by kernel_rfl) (by kernel_rfl) (fun _ _ _ h => h) (Or.inl ⟨by rfl, ?_⟩) HH.out ?_
    rotate_left
    · intro w hSw; go_simp; try with_reducible rfl
    change wpAnyH _ _ _ _ _ _ _ (Act.put _ (some 85) _) _
    simp only [Act.put, List.setIfInBounds_toArray, List.set_cons_zero, List.set_cons_succ]
    refine wpAnyH_take (i := 8) (v := ?_) rfl (by kernel_rfl) (by kernel_rfl) (by kernel_rfl) (fun _ _ _ h => h) (Or.inl ⟨by rfl, ?_⟩) HH.out ?_
    rotate_left
    · intro w hSw; go_simp; try with_reducible rfl
    change wpAnyH _ _ _ _ _ _ _ (Act.put _ (some 86) _) _
    simp only [Act.put, List.setIfInBounds_toArray, List.set_cons_zero, List.set_cons_succ]
    refine wpAnyH_ready (rs := [9]) (by kernel_rfl) (by simp) ?_
    refine AllReadyH.cons rfl (fun K hK => ?_) AllReadyH.nil
    refine step_any rfl (op_copyS (k := min (m - (P + 1)) n) rfl (by kernel_rfl) u8map rfl rfl (b5.ext (by (repeat (first | with_reducible exact Ext.refl _ | with_reducible assumption | refine Ext.trans ?_ (by with_reducible assumption) | refine Ext.alloc ?_ _ _ | refine Ext.drew ?_ | refine Ext.drewN ?_ _)))) (hr _ (by (repeat (first | with_reducible exact Ext.refl _ | with_reducible assumption | refine Ext.trans ?_ (by with_reducible assumption) | refine Ext.alloc ?_ _ _ | refine Ext.drew ?_ | refine Ext.drewN ?_ _)))) (by omega) hrs (by omega) hK1 ?_)
    intro W8 b8 m8
    refine hK.out _ _ ?_ (fun hHeld => ?_)
    · exact HH.out.trans m8
    clear hK K HH
    have HH : Hid (Mod (fun x => x = B5) W0 _) := hHeld
    clear hHeld
    change wpAnyH _ _ _ _ _ _ _ (Act.put _ (some 87) _) _
    simp only [Act.put, List.setIfInBounds_toArray, List.set_cons_zero, List.set_cons_succ]
    refine wpAnyH_done (by kernel_rfl) ?_ _
    have hm8 := HH.out
    have hE8 : Ext w W8 := Ext.trans_mod (show Ext w W0 by (repeat (first | with_reducible exact Ext.refl _ | with_reducible assumption | refine Ext.trans ?_ (by with_reducible assumption) | refine Ext.alloc ?_ _ _ | refine Ext.drew ?_ | refine Ext.drewN ?_ _))) hm8 (fun i hi => by have hi2 : i = B5 := hi; rw [hi2]; exact Nat.le_trans (Ext.size (show Ext w _ by (repeat (first | with_reducible exact Ext.refl _ | with_reducible assumption | refine Ext.trans ?_ (by with_reducible assumption) | refine Ext.alloc ?_ _ _ | refine Ext.drew ?_ | refine Ext.drewN ?_ _)))) g5)
    clear HH m8 hm8
    have bq := fun W (hW : Ext W8 W) => b8.ext hW
    go_wp2_with (first | ((with_reducible (refine Veil.out ?_; apply wl_loadRow rt27)); (case hx => rfl); (case hB => exact bq _ (by (repeat (first | with_reducible exact Ext.refl _ | with_reducible assumption | refine Ext.trans ?_ (by with_reducible assumption) | refine Ext.alloc ?_ _ _ | refine Ext.drew ?_ | refine Ext.drewN ?_ _)))); (case hi => decide); rw [hrw]) | (go_at_call 92; refine (HF _).mono ?_; rintro e w1 ⟨rfl, he⟩) | (go_at_call 268; refine (HS _ (by (repeat (first | with_reducible exact Ext.refl _ | with_reducible assumption | refine Ext.trans ?_ (by with_reducible assumption) | refine Ext.alloc ?_ _ _ | refine Ext.drew ?_ | refine Ext.drewN ?_ _)))).mono ?_; rintro e w9 ⟨rfl, hfin⟩))
    go_end0
    exact ⟨rfl, hfin⟩
theorem mOpPush (h : MRep own w g c V st (s :: sn) stale) (hst : st.frames = f :: rest) (hph : st.phase = 1) (ho : 95 ≤ f.opcode ∧ f.opcode ≤ 127) (hl2 : f.stack.length < 64) (hpc : f.pc ≤ 50000) : Calls Hvah.prog 325 #[.pointer (some ⟨g, 0, none⟩)] w fun e w' => e = .returned (.tuple #[]) ∧ ∃ c', MRep own w' g c' V { st with frames := f.settle 0 [bev (cutA f.code (f.pc + 1) (immA f.opcode))] (1 + immA f.opcode) :: rest } (s :: sn) stale ∧ MStep own w own w' := by
  rcases Nat.eq_zero_or_pos (immA f.opcode) with q | q
  · exact mOpPushZ h hst hph ho hl2 hpc q
  · rcases Nat.lt_or_ge (f.pc + 1) f.code.length with q2 | q2
    · by_cases q3 : immA f.opcode ≤ 8 ∧ f.pc + 1 + immA f.opcode ≤ f.code.length
      · exact mOpPushA h hst hph ho hl2 hpc q3.1 q3.2 q
      · exact mOpPushB h hst hph ho hl2 hpc q2 (fun z => by omega) q
    · exact mOpPushC h hst hph ho hl2 hpc q2 q
end
end Go.Proofs.YgvahwGreat
