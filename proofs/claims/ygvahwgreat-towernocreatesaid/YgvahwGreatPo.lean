import Derived.Test.YgvahwGreatRx3
import Derived.Test.YgvahwGreatKl
namespace Go.Proofs.YgvahwGreat
open Go.RowKit
set_option linter.unusedSimpArgs false

section
variable {ops : Array Oper} {rest : List Oper} {a : Act} {Q : Exit → Act → World → Prop} {w : World} {dst : Option Tmp} {ty : TypeId} {pos : String} {aft : Array Edge}
set_option maxRecDepth 100000 in
theorem wl_build1G {y : Operand} {t : TypeId} (d : Nat) (hd : d < 256) (ht : Hvah.prog.underlying t = some (.slice 5)) (hy : a.eval y = .int .u8 (d : Nat))
    (h : ∀ B W, Ext w W → GRow 5 1 ByC (fun b => w.heap.size ≤ b) W (.slice (some ⟨B, 0, none⟩) 1 1) [d] → wpList Hvah.prog ops Q rest (a.put dst (.slice (some ⟨B, 0, none⟩) 1 1)) W) : Veil (wpList Hvah.prog ops Q (⟨dst, .buildSlice t 1 #[(0, y)], ty, pos, aft, none⟩ :: rest) a w) := by
  refine Veil.mk ?_
  refine wl_any rfl ?_
  have hcs : (Value.int .u8 (d : Int)).cells = #[.int .u8 (d : Int)] := rfl
  have hf : Instr.fill (fun i => some (i * 1, 1)) ((Array.range 1).map ((Value.int .u8 0).cells[· % (Value.int .u8 0).cells.size]!)) [(0, .int .u8 (d : Int))] = some #[.int .u8 (d : Int)] := by
    simp [Instr.fill, hcs]
    refine Array.ext (by simp) (fun i h1 h2 => ?_)
    have : i = 0 := by simpa using h2
    subst this
    simp
  have hrun : (Instr.buildSlice t 1 #[(0, .int .u8 (d : Int))]).run Hvah.prog w = .ok (.slice (some ⟨w.heap.size, 0, none⟩) 1 1) (w.alloc (.cells #[.int .u8 (d : Int)] 5)) := by
    unfold Instr.buildSlice
    simp [Sem.run_bind, run_underlying ht, sizeOf, typeInfo, u8info, u8size, zeroValue, u8zero, newRow, newObj]
    simp at hf
    simp [hf]
    rfl
  unfold Oper.wp
  simp [execOp, hy, hrun, Result.andThen]
  refine h _ _ ((Ext.refl w).alloc _ _) (Or.inr ⟨w.heap.size, 1, cf #[.int .u8 (d : Int)], rfl, Nat.le_refl _, by decide, Blk.new w #[.int .u8 (d : Int)] 5, Nat.le_refl _, fun i hi => ?_⟩)
  have : i = 0 := by simpa using hi
  subst this
  exact ⟨rfl, hd⟩
theorem wl_appendN {s x : Operand} {t t2 : TypeId} (ht : Hvah.prog.underlying t = some (.slice 5)) (htt : t2 = t) (w0 : World) (l bs : List Nat) {v : Value} {b o c1 nb : Nat} (hnb : bs.length = nb) (hs : a.eval s = v) (hx : a.eval x = .slice (some ⟨b, o, none⟩) nb c1) (hG : GRow 5 1 ByC (fun b => w0.heap.size ≤ b) w v l) (hE : Ext w0 w) (hn : l.length ≤ 1048576) (hk : 0 < nb) (hk2 : nb ≤ 1048576) (hd : Digits bs)
    (hsrc : RowIn w b o (bcells bs).toArray) (h : ∀ v' W, GRow 5 1 ByC (fun b => w0.heap.size ≤ b) W v' (l ++ bs) → Ext w0 W → wpList Hvah.prog ops Q rest (a.put dst v') W) : Veil (wpList Hvah.prog ops Q (⟨dst, .call { callee := Callee.builtin Builtin.append, args := #[s, x], argTypes := #[t, t2] }, ty, pos, aft, none⟩ :: rest) a w) := by
  refine Veil.mk ?_
  subst hnb
  exact wl_appendK ht htt w0 l bs hs hx hG hE hn hk hk2 hd hsrc h
end
theorem aat_in {w : World} {B a n : Nat} {t : TypeId} {c : Nat → Value} (h : AAt c 0 a) (ha : a < 2 ^ 160) (hB : Blk w B n t c) (hn : 20 ≤ n) : RowIn w B 0 (bcells (beL 20 a)).toArray := h.row ha hB (by omega)
theorem bw_in {w : World} {B x : Nat} {t : TypeId} {c : Nat → Value} (hx : x < P256) (hB : Blk w B 32 t (layv c 0 (bw x))) : RowIn w B 0 (bcells (beL 32 x)).toArray := by
  have h := (hB.same (c' := cf (bw x)) (fun i hi => by rw [layv_at _ _ _ _ (Nat.zero_le _) (by rw [bw_sizeP hx]; omega), Nat.sub_zero])).rowIn (o := 0) (m := 32) (by omega)
  rwa [cf_rowK (bw_sizeP hx)] at h
set_option maxRecDepth 100000 in
set_option maxHeartbeats 6400000 in
theorem yCreate2Addr (HK : KSumX) {O O' : Nat → Prop} {w : World} {cr salt : Nat} {vs v : Value} {init : List Nat} (hc : cr < 2 ^ 160) (hs : NV O w vs salt) (hsl : salt < P256) (hv : NLx O' w v init) (hl : init.length ≤ 1000000) : Calls Hvah.prog 234 #[.agg (av cr), vs, v] w fun e w' => e = .returned (.agg (av (create2AddrA cr salt init))) ∧ Ext w w' := by
  have HS1 := fun W (hW : Ext w W) => HK O' W v init (hv.ext hW) hl
  have l20 := len20 hc
  have l32 := len32 hsl
  have k1l := kec_lt init
  have hcL : c2L cr salt init = [255] ++ beL 20 cr ++ beL 32 salt ++ beL 32 (kec init) := by unfold c2L; rw [kec_bytes]; simp
  have e0 : create2AddrA cr salt init = addrA (kec (c2L cr salt init)) := rfl
  rw [e0, hcL]
  clear e0 hcL
  obtain ⟨K1, hK1⟩ : ∃ z, Hid (kec init = z) := ⟨_, rfl⟩
  rw [hK1.out] at HS1 k1l ⊢
  have lk := len32 k1l
  have hdL : Digits ([255] ++ beL 20 cr ++ beL 32 salt ++ beL 32 K1) := fun d hd => by
    rcases List.mem_append.1 hd with h | h
    · rcases List.mem_append.1 h with h | h
      · rcases List.mem_append.1 h with h | h
        · rw [List.mem_singleton.1 h]; decide
        · exact digits_beL _ _ d h
      · exact digits_beL _ _ d h
    · exact digits_beL _ _ d h
  have hlL : ([255] ++ beL 20 cr ++ beL 32 salt ++ beL 32 K1).length ≤ 1000000 := by simp [l20, l32, lk]
  have n1 : ([255] : List Nat).length ≤ 1048576 := by decide
  have n2 : ([255] ++ beL 20 cr).length ≤ 1048576 := by simp [l20]
  have n3 : ([255] ++ beL 20 cr ++ beL 32 salt).length ≤ 1048576 := by simp [l20, l32]
  obtain ⟨L, hL⟩ : ∃ z : List Nat, Hid (([255] ++ beL 20 cr ++ beL 32 salt ++ beL 32 K1 : List Nat) = z) := ⟨[255] ++ beL 20 cr ++ beL 32 salt ++ beL 32 K1, (rfl : ([255] ++ beL 20 cr ++ beL 32 salt ++ beL 32 K1 : List Nat) = _)⟩
  have hHid : Hid (Digits _) := hdL
  clear hdL
  rw [hL.out] at hlL ⊢
  obtain ⟨K2, hK2⟩ : ∃ z, Hid (kec L = z) := ⟨_, rfl⟩
  rw [hK2.out]
  have h20 : addrA K2 < 2 ^ 160 := Nat.mod_lt _ (by decide)
  have HH1 := fun (W : World) (v : Value) (h : NLx (fun _ => False) W v L) => yHashedAddrX HK h hlL
  rw [hK2.out] at HH1
  clear hlL
  obtain ⟨o, cp, rfl, _, _, _⟩ := hv
  go_enter Hvah.func234, Hvah.ntmps234
  go_upto_region 2 with (first | ((with_reducible (refine Veil.out ?_; apply wl_boxA (x := Operand.tmp 0))); (case hx => rfl); (case hn => exact hc); rintro B1 W1 c1 e1 b1 a1 g1) | ((with_reducible (refine Veil.out ?_; apply wl_allocA)); rintro R W3 c3 e3 b3 _ g3) | (go_at_call 90; refine (be32_yes O _ _ _ (hs.ext (by (repeat (first | with_reducible exact Ext.refl _ | with_reducible assumption | refine Ext.trans ?_ (by with_reducible assumption) | refine Ext.alloc ?_ _ _ | refine Ext.drew ?_ | refine Ext.drewN ?_ _)))) (dl32 hsl)).mono ?_; rintro e W4 ⟨rfl, e4⟩) | ((with_reducible (refine Veil.out ?_; apply wl_allocF z27k (dst := some 7))); rintro B7 W5 e5 b5 g5) | ((with_reducible (refine Veil.out ?_; apply wl_storeRow rt27k (x := Operand.tmp 7) (r := bw salt))); (case hx => rfl); (case hy => rfl); (case hr => exact bw_sizeP hsl); (case h1 => exact bw_onesP _); (case hB => exact b5); (case hi => decide); rintro W6 b6 m6))
  have hE4 : Ext w W4 := (e1.trans e3).trans e4
  have gRw : w.heap.size ≤ R := Nat.le_trans e1.size g3
  have g5w : w.heap.size ≤ B7 := Nat.le_trans hE4.size g5
  have hE6 : Ext w W6 := Ext.trans_mod (hE4.trans e5) m6 (fun q hq => by have hq2 : q = B7 := hq; rw [hq2]; exact g5w)
  have h17 : ¬ B1 = B7 := fun q => by have := (b1.ext (e3.trans e4)).lt; omega
  have hR7 : ¬ R = B7 := fun q => by have := (b3.ext e4).lt; omega
  have b16 := (b1.ext ((e3.trans e4).trans e5)).mod m6 h17
  have b36 := (b3.ext (e4.trans e5)).mod m6 hR7
  clear b1 b3 b5 e1 e3 e4 e5 m6 hE4
  go_upto_region 3 with (first | (go_at_call 224; refine (HS1 _ (hE6.trans (by (repeat (first | with_reducible exact Ext.refl _ | with_reducible assumption | refine Ext.trans ?_ (by with_reducible assumption) | refine Ext.alloc ?_ _ _ | refine Ext.drew ?_ | refine Ext.drewN ?_ _))))).mono ?_; rintro e W7 ⟨rfl, e7⟩) | ((with_reducible (refine Veil.out ?_; apply wl_allocF z27k (dst := some 9))); rintro B9 W8 e8 b8 g8) | ((with_reducible (refine Veil.out ?_; apply wl_storeRow rt27k (x := Operand.tmp 9) (r := bw K1))); (case hx => rfl); (case hy => rfl); (case hr => exact bw_sizeP k1l); (case h1 => exact bw_onesP _); (case hB => exact b8); (case hi => decide); rintro W9 b9 m9))
  have hE8 : Ext w W8 := (hE6.trans e7).trans e8
  have g8w : w.heap.size ≤ B9 := Nat.le_trans (hE6.trans e7).size g8
  have hE9 : Ext w W9 := Ext.trans_mod hE8 m9 (fun q hq => by have hq2 : q = B9 := hq; rw [hq2]; exact g8w)
  have h19 : ¬ B1 = B9 := fun q => by have := (b16.ext e7).lt; omega
  have hR9 : ¬ R = B9 := fun q => by have := (b36.ext e7).lt; omega
  have h79 : ¬ B7 = B9 := fun q => by have := (b6.ext e7).lt; omega
  have rA := fun W (hW : Ext W9 W) => aat_in a1 hc (((b16.ext (e7.trans e8)).mod m9 h19).ext hW) (Nat.le_refl _)
  have rB := fun W (hW : Ext W9 W) => bw_in hsl (((b6.ext (e7.trans e8)).mod m9 h79).ext hW)
  have rC := fun W (hW : Ext W9 W) => bw_in k1l (b9.ext hW)
  have b39 := (b36.ext (e7.trans e8)).mod m9 hR9
  clear b16 b36 b6 b8 b9 e7 e8 m9 hE8 hE6
  go_upto_region 4 with (first | ((with_reducible (refine Veil.out ?_; apply wl_build1G 255 (by decide) Hvah.underlying23)); (case hy => rfl); rintro Bb W10 e10 hG10) | ((with_reducible (refine Veil.out ?_; apply wl_appendN Hvah.underlying23 rfl W9 ([255]) (beL 20 cr))); (case hnb => exact l20); (case hs => rfl); (case hx => rfl); (case hG => exact hG10); (case hE => exact e10); (case hn => exact n1); (case hk => decide); (case hk2 => decide); (case hd => exact digits_beL _ _); (case hsrc => exact rA _ e10); rintro v11 W11 hG11 hE11))
  go_upto_region 5 with (first | ((with_reducible (refine Veil.out ?_; apply wl_appendN Hvah.underlying23 rfl W9 ([255] ++ beL 20 cr) (beL 32 salt))); (case hnb => exact l32); (case hs => rfl); (case hx => rfl); (case hG => exact hG11); (case hE => exact hE11); (case hn => exact n2); (case hk => decide); (case hk2 => decide); (case hd => exact digits_beL _ _); (case hsrc => exact rB _ hE11); rintro v12 W12 hG12 hE12))
  go_wp2_with (first | ((with_reducible (refine Veil.out ?_; apply wl_appendN Hvah.underlying23 rfl W9 ([255] ++ beL 20 cr ++ beL 32 salt) (beL 32 K1))); (case hnb => exact lk); (case hs => rfl); (case hx => rfl); (case hG => exact hG12); (case hE => exact hE12); (case hn => exact n3); (case hk => decide); (case hk2 => decide); (case hd => exact digits_beL _ _); (case hsrc => exact rC _ hE12); rintro v13 W13 hG13 hE13) | (go_at_call 133; refine (HH1 _ _ (by rw [← hL.out]; exact hG13.nlx hHid.out)).mono ?_; rintro e W14 ⟨rfl, e14⟩) | ((with_reducible (refine Veil.out ?_; apply wl_storeA (v := addrA K2))); (case hx => rfl); (case hy => rfl); (case hv => exact h20); (case hB => exact (b39.ext hE13).ext e14); (case hi => decide); rintro W15 c15 b15 a15 _ m15))
  refine post_A Hvah.results234 rfl b15 a15 h20 (by decide) rfl ⟨rfl, Ext.trans_mod ((hE9.trans hE13).trans e14) m15 (fun q hq => by have hq2 : q = R := hq; rw [hq2]; exact gRw)⟩
end Go.Proofs.YgvahwGreat
