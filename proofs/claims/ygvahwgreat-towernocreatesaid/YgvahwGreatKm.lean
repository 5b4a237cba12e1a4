import Derived.Test.YgvahwGreatKl
import Derived.Test.YgvahwGreatKn
namespace Go.Proofs.YgvahwGreat
open Go.RowKit
set_option linter.unusedSimpArgs false
set_option maxRecDepth 100000
def slLen : Value → Nat
  | .slice _ n _ => n
  | _ => 0
theorem FB.snoc {n : Nat} {c : Nat → Value} {f : Nat → Bool} {b : Bool} (h : FB n c f) (hb : b = f n) : FB (n + 1) (updv c n (.bool b)) f := fun i hi => by
  by_cases e : i = n
  · subst e; rw [updv_same, hb]
  · rw [updv_ne _ _ e]; exact h i (by omega)
theorem el4b : ElT 4 1 #[.bool false] := ⟨⟨Hvah.t4, .bool false, by kernel_rfl, by kernel_rfl, rfl, by kernel_rfl, by decide +kernel⟩, rfl, by decide⟩
theorem info4 : Hvah.prog.info? 4 = some Hvah.t4 := by kernel_rfl
theorem zero4 : Hvah.t4.zero = some (.bool false) := by kernel_rfl
theorem size4 : Hvah.t4.size = 1 := by kernel_rfl
theorem z384 : ∃ i, Hvah.prog.info? 392 = some i ∧ i.zero = some (.agg (Array.replicate 1600 (.bool false))) := ⟨Hvah.t392, by kernel_rfl, by kernel_rfl⟩
theorem z27k : ∃ i, Hvah.prog.info? 32 = some i ∧ i.zero = some (.agg (Array.replicate 32 (.int .u8 0))) := ⟨Hvah.t32, by kernel_rfl, by kernel_rfl⟩
theorem onek5 : OneT 5 := oneT_of (by kernel_rfl) (by kernel_rfl)
theorem and_bit8 {k z : Nat} (hk : k < 256) : ((bits .and .u8 ((k : Int) / 2 ^ z) 1) == 1) = k.testBit z := by
  have e : ((k : Int) / 2 ^ z) = ((k / 2 ^ z : Nat) : Int) := by push_cast; rfl
  rw [e, show (1 : Int) = ((1 : Nat) : Int) from rfl, u8_and_nat _ _ (Nat.lt_of_le_of_lt (Nat.div_le_self _ _) hk) (by decide), Nat.and_one_is_mod, Nat.testBit_eq_decide_div_mod_eq]
  have : k / 2 ^ z % 2 < 2 := Nat.mod_lt _ (by decide)
  rcases (show k / 2 ^ z % 2 = 0 ∨ k / 2 ^ z % 2 = 1 by omega) with h | h <;> rw [h] <;> rfl
set_option maxRecDepth 100000 in
set_option maxHeartbeats 6400000 in
theorem kSum0 {O : Nat → Prop} {w : World} {v : Value} {l : List Nat} (hv : NL O w v l) (hl : l.length ≤ 1000000) : Calls Hvah.prog 224 #[v] w fun e w' => e = .returned (.agg (bcells ((List.range 32).map fun j => obyte (kst (pbit l) (mlen l)) j 8)).toArray) ∧ Ext w w' := by
  obtain ⟨o, cp, rfl, hcp, hcm, hbs⟩ := hv
  have hdg := NL.digits ⟨o, cp, rfl, hcp, hcm, hbs⟩
  have HB : ∀ i (hi : i < l.length), ∃ b off, o = some ⟨b, off, none⟩ ∧ ∀ W, Ext w W → W.cell? ⟨b, off + i, none⟩ = some (.int .u8 (l[i] : Int)) := fun i hi => by
    obtain ⟨b, off, h1, h2, h3, h4⟩ := hbs.spot (fun q => by rw [q] at hi; cases hi)
    exact ⟨b, off, h1, fun W hW => by rw [hW.cell h3]; exact h4 i hi⟩
  obtain ⟨n, hn⟩ : ∃ n, Hid (l.length = n) := ⟨_, rfl⟩
  have hnl := hn.out
  rw [hnl] at hl
  obtain ⟨cap, hcap⟩ : ∃ cap, Hid (8 * n + 2176 = cap) := ⟨_, rfl⟩
  have hcap2 := hcap.out
  have j1 : IntKind.i64.wrap ((8 : Int) * n) = 8 * n := by rw [IntKind.wrap_i64]; omega
  have j2 : IntKind.i64.wrap ((8 : Int) * n + 2176) = (cap : Int) := by rw [IntKind.wrap_i64]; omega
  have hM : Hid (mlen l = 1088 * (n / 136 + 1)) := by unfold mlen; rw [hnl]; exact rfl
  have hpb : ∀ j, pbit l j = if j < 8 * n then mbit l j else decide (j = 8 * n ∨ j + 1 = mlen l) := fun j => by unfold pbit; rw [hnl]
  clear hnl
  generalize hMe : mlen l = M at *
  clear hMe
  rw [hn.out]
  go_enter Hvah.func224, Hvah.ntmps224
  go_upto_region 3 with (first | ((with_reducible (refine Veil.out ?_; apply wl_allocF z27k)); rintro R W1 e1 bR gR) | ((with_reducible (refine Veil.out ?_; apply wl_makeC under216 el4b 0 cap)); (case hl => rfl); (case hc => rfl); (case hnm => omega); (case hm => omega); rintro S W2 e2 bS gS))
  try simp only [Act.put]
  rw [Nat.mul_one] at bS
  have gSw : w.heap.size ≤ S := Nat.le_trans e1.size gS
  have hE2 : Ext w W2 := by (repeat (first | with_reducible exact Ext.refl _ | with_reducible assumption | refine Ext.trans ?_ (by with_reducible assumption) | refine Ext.alloc ?_ _ _ | refine Ext.drew ?_ | refine Ext.drewN ?_ _))
  have bR2 := bR.ext e2
  have hRS : ¬ R = S := fun q => by have := bR.lt; omega
  clear hcap2 bR e1 e2
  go_loopw [3, 19] (fun sv iv wr => ∃ (i : Nat) (cS : Nat → Value), sv = .slice (some ⟨S, 0, none⟩) (8 * i : Nat) cap ∧ iv = .int .i64 (i : Nat) ∧ i ≤ n ∧ Blk wr S cap 4 cS ∧ FB (8 * i) cS (mbit l) ∧ Blk wr R 32 32 (fun _ => .int .u8 0) ∧ Ext w wr) (fun _ iv _ => n - (intOf iv).toNat)
  case atStart => exact ⟨0, _, rfl, rfl, by omega, bS, fun i hi => absurd hi (Nat.not_lt_zero _), bR2, hE2⟩
  case round =>
    clear bS bR2 hE2
    obtain ⟨i, cS, rfl, rfl, hin, bS, fS, bR, hE⟩ := hrel
    rcases Nat.lt_or_ge i n with hlt | hge
    · have hii : (i : Int) < n := by omega
      have hil : i < l.length := by have := hn.out; omega
      obtain ⟨b, off, ho, KB⟩ := HB i hil
      subst ho
      have hd8 : l[i] < 256 := hdg _ (List.getElem_mem _)
      have hmb : ∀ k, k < 8 → mbit l (8 * i + k) = (l[i]).testBit k := fun k hk => by
        unfold mbit
        rw [show (8 * i + k) / 8 = i by omega, show (8 * i + k) % 8 = k by omega, List.getD_eq_getElem?_getD, List.getElem?_eq_getElem hil]
        rfl
      obtain ⟨d, hd⟩ : ∃ d, Hid (l[i] = d) := ⟨l[i], (rfl : l[i] = l[i])⟩
      simp only [hd.out] at KB hd8 hmb
      go_upto_region 6 with (first | ((with_reducible (refine Veil.out ?_; apply wl_loadC onek5)); (case hw => rfl); (case hx => rfl); (case hc => exact KB _ (by (repeat (first | with_reducible exact Ext.refl _ | with_reducible assumption | refine Ext.trans ?_ (by with_reducible assumption) | refine Ext.alloc ?_ _ _ | refine Ext.drew ?_ | refine Ext.drewN ?_ _))))))
      try simp only [Act.put]
      go_loopw [3, 6] (fun sv kv wr => ∃ (k : Nat) (cS : Nat → Value), sv = .slice (some ⟨S, 0, none⟩) (8 * i + k : Nat) cap ∧ kv = .int .i64 (k : Nat) ∧ k ≤ 8 ∧ Blk wr S cap 4 cS ∧ FB (8 * i + k) cS (mbit l) ∧ Blk wr R 32 32 (fun _ => .int .u8 0) ∧ Ext w wr) (fun _ kv _ => 8 - (intOf kv).toNat)
      case atStart => exact ⟨0, cS, rfl, rfl, by omega, bS, fS, bR, hE⟩
      case round =>
        clear bS fS bR hE
        obtain ⟨k, cS, rfl, rfl, hk8, bS, fS, bR, hE⟩ := hrel
        rcases Nat.lt_or_ge k 8 with hltk | hge
        · have hki : (k : Int) < 8 := by omega
          have hb2 := hmb k hltk
          obtain ⟨tb, htb⟩ : ∃ b, Hid (d.testBit k = b) := ⟨_, rfl⟩
          have hbit : ((bits .and .u8 ((d : Int) / 2 ^ k) 1) == 1) = tb := by rw [and_bit8 hd8, htb.out]
          rw [htb.out] at hb2
          have hroom : 8 * i + k < cap := by have := hcap.out; omega
          go_upto_region 7 with (first | ((with_reducible (refine Veil.out ?_; apply wl_build1c 4 Hvah.t4 (.bool false))); (case ht => exact under216); (case hi => exact info4); (case hz => exact zero4); (case hsz => exact size4); (case hzs => rfl); (case hy => rfl); (case h1 => rfl); rintro B4 W4 e4 k4 g4) | ((with_reducible (refine Veil.out ?_; apply wl_appendIn (v := .bool tb))); (case ht => exact under216); (case hi => exact info4); (case hsz => exact size4); (case hs => rfl); (case hx => rfl); (case hB => exact bS.ext (by (repeat (first | with_reducible exact Ext.refl _ | with_reducible assumption | refine Ext.trans ?_ (by with_reducible assumption) | refine Ext.alloc ?_ _ _ | refine Ext.drew ?_ | refine Ext.drewN ?_ _)))); (case hn => omega); (case hc => exact k4); (case h1 => rfl); rintro V5 b5 m5))
          go_wp2
          go_roundw
          case rel =>
            have hW4 : Ext wr W4 := e4
            refine ⟨k + 1, _, rfl, int_eq (by omega), by omega, b5, ?_, (bR.ext e4).mod m5 hRS, Ext.trans_mod (hE.trans e4) m5 (fun q hq => by have hq2 : q = S := hq; rw [hq2]; exact gSw)⟩
            exact FB.snoc fS hb2.symm
          case measure => simp [intOf]; omega
        · have hki : ¬ (k : Int) < 8 := by omega
          obtain rfl : k = 8 := by omega
          go_wp2
          go_roundw
          case rel => exact ⟨i + 1, cS, rfl, int_eq (by omega), by omega, bS, fS, bR, hE⟩
          case measure => simp [intOf]; omega
    · have hii : ¬ (i : Int) < n := by omega
      obtain rfl : n = i := by omega
      clear hdg HB hbs
      have hroom : 8 * n < cap := by have := hcap.out; omega
      have hMo := hM.out
      go_upto_region 11 with (first | ((with_reducible (refine Veil.out ?_; apply wl_build1c 4 Hvah.t4 (.bool false))); (case ht => exact under216); (case hi => exact info4); (case hz => exact zero4); (case hsz => exact size4); (case hzs => rfl); (case hy => rfl); (case h1 => rfl); rintro B6 W6 e6 k6 g6) | ((with_reducible (refine Veil.out ?_; apply wl_appendIn (v := .bool true))); (case ht => exact under216); (case hi => exact info4); (case hsz => exact size4); (case hs => rfl); (case hx => rfl); (case hB => exact bS.ext (by (repeat (first | with_reducible exact Ext.refl _ | with_reducible assumption | refine Ext.trans ?_ (by with_reducible assumption) | refine Ext.alloc ?_ _ _ | refine Ext.drew ?_ | refine Ext.drewN ?_ _)))); (case hn => omega); (case hc => exact k6); (case h1 => rfl); rintro V7 b7 m7))
      have f7 : FB (8 * n + 1) (updv cS (8 * n) (.bool true)) (pbit l) := fun i hi => by
        by_cases e : i = 8 * n
        · rw [e, updv_same, hpb, if_neg (by omega)]; simp
        · rw [updv_ne _ _ e, fS i (by omega), hpb, if_pos (by omega)]
      have bR7 := (bR.ext e6).mod m7 hRS
      have hE7 : Ext w V7 := Ext.trans_mod (hE.trans e6) m7 (fun q hq => by have hq2 : q = S := hq; rw [hq2]; exact gSw)
      have b7' : Blk V7 S cap 4 (updv cS (8 * n) (.bool true)) := b7
      generalize updv cS (8 * n) (.bool true) = d7 at f7 b7'
      clear b7 m7 e6 g6 k6 bR hE bS fS
      try simp only [Act.put]
      go_loopw [3] (fun sv wr => ∃ (m : Nat) (cS : Nat → Value), sv = .slice (some ⟨S, 0, none⟩) (m : Nat) cap ∧ 8 * n + 1 ≤ m ∧ m < M ∧ Blk wr S cap 4 cS ∧ FB m cS (pbit l) ∧ Blk wr R 32 32 (fun _ => .int .u8 0) ∧ Ext w wr) (fun sv _ => M - slLen sv)
      case atStart => exact ⟨8 * n + 1, d7, rfl, by omega, by omega, b7', f7, bR7, hE7⟩
      case round =>
        clear b7' f7 bR7 hE7
        obtain ⟨m, cS, rfl, hm1, hm2, bS, fS, bR, hE⟩ := hrel
        obtain ⟨r, hr⟩ : ∃ r, Hid (m % 1088 = r) := ⟨_, rfl⟩
        have hr2 := hr.out
        have t1 : (m : Int) % 1088 = (r : Int) := by omega
        have hroom : m < cap := by have := hcap.out; omega
        by_cases hr7 : r = 1087
        · subst hr7
          have hmM : m + 1 = M := by omega
          have t2 : (m : Int) % 1088 = 1087 := by omega
          have hmMh : Hid (m + 1 = M) := hmM
          clear t1 hr2 hmM hMo
          go_upto_region 14 with (first | ((with_reducible (refine Veil.out ?_; apply wl_build1c 4 Hvah.t4 (.bool false))); (case ht => exact under216); (case hi => exact info4); (case hz => exact zero4); (case hsz => exact size4); (case hzs => rfl); (case hy => rfl); (case h1 => rfl); rintro B8 W8 e8 k8 g8) | ((with_reducible (refine Veil.out ?_; apply wl_appendIn (v := .bool true))); (case ht => exact under216); (case hi => exact info4); (case hsz => exact size4); (case hs => rfl); (case hx => rfl); (case hB => exact bS.ext (by (repeat (first | with_reducible exact Ext.refl _ | with_reducible assumption | refine Ext.trans ?_ (by with_reducible assumption) | refine Ext.alloc ?_ _ _ | refine Ext.drew ?_ | refine Ext.drewN ?_ _)))); (case hn => omega); (case hc => exact k8); (case h1 => rfl); rintro V9 b9 m9))
          have hmM := hmMh.out
          clear hmMh
          have f9 : FB (m + 1) (updv cS m (.bool true)) (pbit l) := FB.snoc fS (by rw [hpb, if_neg (by omega)]; simp; omega)
          have bR9 := (bR.ext e8).mod m9 hRS
          have hE9 : Ext w V9 := Ext.trans_mod (hE.trans e8) m9 (fun q hq => by have hq2 : q = S := hq; rw [hq2]; exact gSw)
          have b9' : Blk V9 S cap 4 (updv cS m (.bool true)) := b9
          generalize updv cS m (.bool true) = d9 at f9 b9'
          clear b9 m9 e8 g8 k8 bR hE bS fS hpb hr t2 hM
          subst hmM
          have hLp : m + 1 ≤ 100000000 := by have := hcap.out; omega
          go_upto_region 16 with (first | ((with_reducible (refine Veil.out ?_; apply wl_allocF z384)); rintro P WP eP bP gP))
          have hSP : ¬ S = P := fun q => by have := b9'.lt; omega
          have hRP : ¬ R = P := fun q => by have := bR9.lt; omega
          have gPw : w.heap.size ≤ P := Nat.le_trans hE9.size gP
          have bS0 := b9'.ext eP
          have bR0 := bR9.ext eP
          have hE0 : Ext w WP := hE9.trans eP
          clear b9' bR9 hE9 eP
          try simp only [Act.put]
          go_loopw [51] (fun iv wr => ∃ (i : Nat) (cP : Nat → Value), iv = .int .i64 (i : Nat) ∧ i ≤ (m + 1) ∧ Blk wr P 1600 392 cP ∧ FB 1600 cP (kst (pbit l) i) ∧ Blk wr S cap 4 d9 ∧ Blk wr R 32 32 (fun _ => .int .u8 0) ∧ Ext w wr) (fun iv _ => (m + 1) - (intOf iv).toNat)
          case atStart => exact ⟨0, _, rfl, by omega, bP, fun i hi => rfl, bS0, bR0, hE0⟩
          case round =>
            clear bP bS0 bR0 hE0
            obtain ⟨i, cP, rfl, hi, bP, fP, bS, bR, hE⟩ := hrel
            rcases Nat.lt_or_ge i (m + 1) with hlt | hge
            · have hii : (i : Int) < (m : Int) + 1 := by omega
              have hii' : (i : Int) < ((m + 1 : Nat) : Int) := by omega
              obtain ⟨r, hr⟩ : ∃ r, Hid (i % 1088 = r) := ⟨_, rfl⟩
              have hr2 := hr.out
              have hr8 : r < 1088 := by omega
              have t1 : (i : Int) % 1088 = (r : Int) := by omega
              have r16 : (r : Int) < 1600 := by omega
              clear hr2
              obtain ⟨nb, hnb⟩ : ∃ b, Hid (pbit l i = b) := ⟨_, rfl⟩
              obtain ⟨ob, hob⟩ : ∃ b, Hid (kst (pbit l) i r = b) := ⟨_, rfl⟩
              have KS : ∀ W, Ext wr W → W.cell? ⟨S, i, none⟩ = some (.bool nb) := fun W hW => by rw [(bS.ext hW).cell (by omega), f9 i hlt, hnb.out]
              have KP : ∀ W, Ext wr W → W.cell? ⟨P, r, none⟩ = some (.bool ob) := fun W hW => by rw [(bP.ext hW).cell (by omega), fP r (by omega), hob.out]
              go_upto_region 19 with (first | ((with_reducible (refine Veil.out ?_; apply wl_loadC onek4)); (case hw => rfl); (case hx => rfl); (case hc => first | exact KS _ (by (repeat (first | with_reducible exact Ext.refl _ | with_reducible assumption | refine Ext.trans ?_ (by with_reducible assumption) | refine Ext.alloc ?_ _ _ | refine Ext.drew ?_ | refine Ext.drewN ?_ _))) | exact KP _ (by (repeat (first | with_reducible exact Ext.refl _ | with_reducible assumption | refine Ext.trans ?_ (by with_reducible assumption) | refine Ext.alloc ?_ _ _ | refine Ext.drew ?_ | refine Ext.drewN ?_ _))))) | ((with_reducible (refine Veil.out ?_; apply wl_storeC onek4)); (case hx => rfl); (case hy => rfl); (case h1 => rfl); (case hB => exact bP); (case hi => omega); rintro W5 b5 m5))
              have fP2 : FB 1600 (updv cP r (.bool (ob ^^ nb))) (fun j => if j = r then (kst (pbit l) i j ^^ pbit l i) else kst (pbit l) i j) := fun j hj => by
                by_cases e : j = r
                · rw [e, updv_same]; simp [hob.out, hnb.out]
                · rw [updv_ne _ _ e, fP j hj]; simp [e]
              have bP2 : Blk W5 P 1600 392 (updv cP r (.bool (ob ^^ nb))) := by rw [← xor_v]; exact b5
              have bS5 := bS.mod m5 hSP
              have bR5 := bR.mod m5 hRP
              have hE5 : Ext w W5 := Ext.trans_mod hE m5 (fun q hq => by have hq2 : q = P := hq; rw [hq2]; exact gPw)
              generalize updv cP r (.bool (ob ^^ nb)) = d5 at fP2 bP2
              clear b5 m5 bS bR hE KS KP
              have hk1 : kst (pbit l) (i + 1) = let s := (fun j => if j = i % 1088 then (kst (pbit l) i j ^^ pbit l i) else kst (pbit l) i j); if i % 1088 = 1087 then fs (bRounds (unfs s) 24) else s := rfl
              rw [hr.out] at hk1
              by_cases hr7 : r = 1087
              · subst hr7
                have HF := fun W (hW : W = W5) => kF_ (w := W) (tt := 392) (B := P) (A := unfs (fun j => if j = 1087 then (kst (pbit l) i j ^^ pbit l i) else kst (pbit l) i j)) (by rw [hW]; exact bP2) (fP2.congr (fun j _ => fs_unfs _ j))
                simp only [if_true] at hk1
                go_wp2_with (go_at_call 338; refine (HF _ rfl).mono ?_; rintro e w6 ⟨rfl, c6, b6, f6, m6⟩)
                go_roundw
                case rel =>
                  refine ⟨i + 1, c6, int_eq (by omega), by omega, b6, by rw [hk1]; exact f6, bS5.mod m6 hSP, bR5.mod m6 hRP, Ext.trans_mod hE5 m6 (fun q hq => by have hq2 : q = P := hq; rw [hq2]; exact gPw)⟩
                case measure => simp [intOf]; omega
              · have hb : ((r : Int) == 1087) = false := by simp; omega
                rw [if_neg hr7] at hk1
                go_wp2
                go_roundw
                case rel => exact ⟨i + 1, d5, int_eq (by omega), by omega, bP2, by rw [hk1]; exact fP2, bS5, bR5, hE5⟩
                case measure => simp [intOf]; omega
            · have hii : ¬ (i : Int) < (m : Int) + 1 := by omega
              have hii' : ¬ (i : Int) < ((m + 1 : Nat) : Int) := by omega
              obtain rfl : i = m + 1 := by omega
              obtain ⟨sf, hsf⟩ : ∃ sf, Hid (kst (pbit l) (m + 1) = sf) := ⟨_, rfl⟩
              rw [hsf.out] at fP
              clear bS f9
              go_upto_region 24 with (first | ((with_reducible (refine Veil.out ?_; apply wl_allocF z27k)); rintro Qb WQ eQ bQ gQ))
              have gQw : w.heap.size ≤ Qb := Nat.le_trans hE.size gQ
              have hPQ : ¬ P = Qb := fun q => by have := bP.lt; omega
              have hRQ : ¬ R = Qb := fun q => by have := bR.lt; omega
              have bP0 := bP.ext eQ
              have bR0 := bR.ext eQ
              have hE0 : Ext w WQ := hE.trans eQ
              clear bP bR hE eQ
              try simp only [Act.put]
              go_loopw [11] (fun iv wr => ∃ (i : Nat) (cQ : Nat → Value), iv = .int .i64 (i : Nat) ∧ i ≤ 256 ∧ Blk wr Qb 32 32 cQ ∧ (∀ j, j < 32 → cQ j = .int .u8 (obyte sf j (min 8 (i - 8 * j)) : Nat)) ∧ Blk wr P 1600 392 cP ∧ Blk wr R 32 32 (fun _ => .int .u8 0) ∧ Ext w wr) (fun iv _ => 256 - (intOf iv).toNat)
              case atStart => exact ⟨0, _, rfl, by decide, bQ, fun j hj => by rw [show min 8 (0 - 8 * j) = 0 by omega]; rfl, bP0, bR0, hE0⟩
              case round =>
                clear bQ bP0 bR0 hE0
                obtain ⟨i, cQ, rfl, hi, bQ, fQ, bP, bR, hE⟩ := hrel
                rcases Nat.lt_or_ge i 256 with hlt | hge
                · have hii : (i : Int) < 256 := by omega
                  have i16 : (i : Int) < 1600 := by omega
                  obtain ⟨q, hq⟩ : ∃ q, Hid (i / 8 = q) := ⟨_, rfl⟩
                  have hq2 := hq.out
                  have hq32 : q < 32 := by omega
                  have q32 : (q : Int) < 32 := by omega
                  have d1 : (i : Int).tdiv 8 = q := by rw [Int.tdiv_eq_ediv_of_nonneg (by omega)]; omega
                  have wq : IntKind.i64.wrap (q : Int) = q := by rw [IntKind.wrap_i64]; omega
                  have t0 : (i : Int) / 8 = q := by omega
                  obtain ⟨r, hr⟩ : ∃ r, Hid (i % 8 = r) := ⟨_, rfl⟩
                  have hr2 := hr.out
                  have hiq : i = 8 * q + r := by omega
                  have hob := obyte_lt sf q r
                  have hst : obyte sf q (r + 1) = obyte sf q r ||| if sf i then 2 ^ r else 0 := by rw [hiq]; rfl
                  have hoth : ∀ j, j < 32 → j ≠ q → min 8 (i + 1 - 8 * j) = min 8 (i - 8 * j) := fun j hj hne => by omega
                  have hqq : min 8 (i - 8 * q) = r := by omega
                  have hqn : min 8 (i + 1 - 8 * q) = r + 1 := by omega
                  have hr8 : r = 0 ∨ r = 1 ∨ r = 2 ∨ r = 3 ∨ r = 4 ∨ r = 5 ∨ r = 6 ∨ r = 7 := by omega
                  have d2 : (i : Int).tmod 8 = r := by rw [Int.tmod_eq_emod_of_nonneg (by omega)]; omega
                  have d3 : (i : Int) % 8 = r := by omega
                  obtain ⟨bt, hbt⟩ : ∃ b, Hid (sf i = b) := ⟨_, rfl⟩
                  have KP : ∀ W, Ext wr W → W.cell? ⟨P, i, none⟩ = some (.bool bt) := fun W hW => by rw [(bP.ext hW).cell (by omega), fP i (by omega), hbt.out]
                  have KQ0 := fQ q hq32
                  rw [hqq] at KQ0
                  rw [hbt.out] at hst
                  obtain ⟨ob, hobe⟩ : ∃ ob, Hid (obyte sf q r = ob) := ⟨_, rfl⟩
                  rw [hobe.out] at KQ0 hst hob
                  have KQ : ∀ W, Ext wr W → W.cell? ⟨Qb, q, none⟩ = some (.int .u8 (ob : Nat)) := fun W hW => by rw [(bQ.ext hW).cell (by omega), KQ0]
                  clear hq2 hr2
                  have hiqh : Hid (i = 8 * q + r) := hiq
                  clear hiq
                  cases bt
                  · go_wp2_with (first | ((with_reducible (refine Veil.out ?_; apply wl_loadC onek4)); (case hw => rfl); (case hx => rfl); (case hc => exact KP _ (by (repeat (first | with_reducible exact Ext.refl _ | with_reducible assumption | refine Ext.trans ?_ (by with_reducible assumption) | refine Ext.alloc ?_ _ _ | refine Ext.drew ?_ | refine Ext.drewN ?_ _))))))
                    go_roundw
                    case rel =>
                      refine ⟨i + 1, cQ, int_eq (by omega), by omega, bQ, fun j hj => ?_, bP, bR, hE⟩
                      by_cases e : j = q
                      · subst e
                        rw [KQ0, hqn, hst]; simp
                      · rw [hoth j hj e]; exact fQ j hj
                    case measure => simp [intOf]; omega
                  · have hor : ∀ p : Nat, p < 256 → bits .or .u8 (ob : Int) (p : Int) = ((ob ||| p : Nat) : Int) := fun p hp => u8_or_nat ob p (Nat.lt_of_lt_of_le hob (by rcases hr8 with h | h | h | h | h | h | h | h <;> rw [h] <;> decide)) hp
                    rcases hr8 with rfl | rfl | rfl | rfl | rfl | rfl | rfl | rfl
                    · go_upto_region 27 with (first | ((with_reducible (refine Veil.out ?_; apply wl_loadC onek4)); (case hw => rfl); (case hx => rfl); (case hc => exact KP _ (by (repeat (first | with_reducible exact Ext.refl _ | with_reducible assumption | refine Ext.trans ?_ (by with_reducible assumption) | refine Ext.alloc ?_ _ _ | refine Ext.drew ?_ | refine Ext.drewN ?_ _))))))
                      refine w_ext ?_
                      rintro W0 hW0
                      refine wp_region_held_drew (S := fun w' => (0 ≤ (w' : World).heap.size)) (by kernel_rfl) (Nat.zero_le _) (fun hHeld => ?_)
                      have HH : Hid ((0 ≤ (_ : World).heap.size)) := hHeld
                      clear hHeld
                      refine wpAnyH_take (i := 0) (v := ?_) rfl (by kernel_rfl) (by kernel_rfl) (by kernel_rfl) (fun _ _ _ h => h) (Or.inl ⟨by rfl, ?_⟩) HH.out ?_
                      rotate_left
                      · intro w hSw; go_simp; try with_reducible rfl
                      change wpAnyH _ _ _ _ _ _ _ (Act.put _ (some 77) _) _
                      simp only [Act.put, List.setIfInBounds_toArray, List.set_cons_zero, List.set_cons_succ]
                      refine wpAnyH_take (i := 1) (v := ?_) rfl (by kernel_rfl) (by kernel_rfl) (by kernel_rfl) (fun _ _ _ h => h) (Or.inl ⟨by rfl, ?_⟩) HH.out ?_
                      rotate_left
                      · intro w hSw; go_simp; try with_reducible rfl
                      change wpAnyH _ _ _ _ _ _ _ (Act.put _ (some 78) _) _
                      simp only [Act.put, List.setIfInBounds_toArray, List.set_cons_zero, List.set_cons_succ]
                      refine wpAnyH_take (i := 2) (v := ?_) rfl (by kernel_rfl) (by kernel_rfl) (by kernel_rfl) (fun _ _ _ h => h) (Or.inl ⟨by rfl, ?_⟩) HH.out ?_
                      rotate_left
                      · intro w hSw; go_simp; try with_reducible rfl
                      change wpAnyH _ _ _ _ _ _ _ (Act.put _ (some 79) _) _
                      simp only [Act.put, List.setIfInBounds_toArray, List.set_cons_zero, List.set_cons_succ]
                      refine wpAnyH_take (i := 4) (v := ?_) rfl (by kernel_rfl) (by kernel_rfl) (by kernel_rfl) (fun _ _ _ h => h) (Or.inl ⟨by rfl, ?_⟩) HH.out ?_
                      rotate_left
                      · intro w hSw; go_simp; try with_reducible rfl
                      change wpAnyH _ _ _ _ _ _ _ (Act.put _ (some 81) _) _
                      simp only [Act.put, List.setIfInBounds_toArray, List.set_cons_zero, List.set_cons_succ]
                      refine wpAnyH_take (i := 5) (v := ?_) rfl (by kernel_rfl) (by kernel_rfl) (by kernel_rfl) (fun _ _ _ h => h) (Or.inl ⟨by rfl, ?_⟩) HH.out ?_
                      rotate_left
                      · intro w hSw; go_simp; try with_reducible rfl
                      change wpAnyH _ _ _ _ _ _ _ (Act.put _ (some 82) _) _
                      simp only [Act.put, List.setIfInBounds_toArray, List.set_cons_zero, List.set_cons_succ]
                      refine wpAnyH_take (i := 6) (v := ?_) rfl (by kernel_rfl) (by kernel_rfl) (by kernel_rfl) (fun _ _ _ h => h) (Or.inl ⟨by rfl, ?_⟩) HH.out ?_
                      rotate_left
                      · intro w hSw; go_simp; try with_reducible rfl
                      change wpAnyH _ _ _ _ _ _ _ (Act.put _ (some 83) _) _
                      simp only [Act.put, List.setIfInBounds_toArray, List.set_cons_zero, List.set_cons_succ]
                      refine wpAnyH_ready (rs := [3]) (by kernel_rfl) (by simp) ?_
                      refine AllReadyH.cons rfl (fun K hK => ?_) AllReadyH.nil
                      refine step_any rfl (op_loadK rfl onek5 rfl (KQ _ (by (repeat (first | with_reducible exact Ext.refl _ | with_reducible assumption | refine Ext.trans ?_ (by with_reducible assumption) | refine Ext.alloc ?_ _ _ | refine Ext.drew ?_ | refine Ext.drewN ?_ _)))) ?_)
                      refine hK.out _ _ HH.out (fun hHeld => ?_)
                      clear hK K HH
                      have HH : Hid ((0 ≤ (_ : World).heap.size)) := hHeld
                      clear hHeld
                      change wpAnyH _ _ _ _ _ _ _ (Act.put _ (some 80) _) _
                      simp only [Act.put, List.setIfInBounds_toArray, List.set_cons_zero, List.set_cons_succ]
                      refine wpAnyH_take (i := 7) (v := ?_) rfl (by kernel_rfl) (by kernel_rfl) (by kernel_rfl) (fun _ _ _ h => h) (Or.inl ⟨by rfl, ?_⟩) HH.out ?_
                      rotate_left
                      · intro w hSw; go_simp; try with_reducible rfl
                      change wpAnyH _ _ _ _ _ _ _ (Act.put _ (some 84) _) _
                      simp only [Act.put, List.setIfInBounds_toArray, List.set_cons_zero, List.set_cons_succ]
                      refine wpAnyH_take (i := 8) (v := ?_) rfl (by kernel_rfl) (by kernel_rfl) (by kernel_rfl) (fun _ _ _ h => h) (Or.inl ⟨by rfl, ?_⟩) HH.out ?_
                      rotate_left
                      · intro w hSw; go_simp; try with_reducible rfl
                      change wpAnyH _ _ _ _ _ _ _ (Act.put _ (some 85) _) _
                      simp only [Act.put, List.setIfInBounds_toArray, List.set_cons_zero, List.set_cons_succ]
                      refine wpAnyH_ready (rs := [9]) (by kernel_rfl) (by simp) ?_
                      refine AllReadyH.cons rfl (fun K hK => ?_) AllReadyH.nil
                      refine step_any rfl (op_store1 rfl onek5 rfl rfl rfl (bQ.ext (by (repeat (first | with_reducible exact Ext.refl _ | with_reducible assumption | refine Ext.trans ?_ (by with_reducible assumption) | refine Ext.alloc ?_ _ _ | refine Ext.drew ?_ | refine Ext.drewN ?_ _)))) (by omega) ?_)
                      rintro W7 b7 m7
                      refine hK.out _ _ (Nat.zero_le _) (fun hHeld => ?_)
                      clear hK K HH
                      have HH : Hid ((0 ≤ (_ : World).heap.size)) := hHeld
                      clear hHeld
                      change wpAnyH _ _ _ _ _ _ _ (Act.put _ none _) _
                      simp only [Act.put, List.setIfInBounds_toArray, List.set_cons_zero, List.set_cons_succ]
                      refine wpAnyH_done (by kernel_rfl) ?_ _
                      go_wp2
                      go_roundw
                      case rel =>
                        have eW : Ext wr W0 := by (repeat (first | with_reducible exact Ext.refl _ | with_reducible assumption | refine Ext.trans ?_ (by with_reducible assumption) | refine Ext.alloc ?_ _ _ | refine Ext.drew ?_ | refine Ext.drewN ?_ _))
                        refine ⟨i + 1, _, int_eq (by omega), by omega, b7, fun j hj => ?_, (bP.ext eW.drew).mod m7 hPQ, (bR.ext eW.drew).mod m7 hRQ, Ext.trans_mod (hE.trans eW.drew) m7 (fun q hq => by have hq2 : q = Qb := hq; rw [hq2]; exact gQw)⟩
                        by_cases e : j = q
                        · subst e
                          refine (updv_same _ _ _).trans ?_
                          rw [hqn, hst]
                          exact int_eq (hor _ (by decide))
                        · rw [updv_ne _ _ e, hoth j hj e]; exact fQ j hj
                      case measure => simp [intOf]; omega
                    · go_upto_region 27 with (first | ((with_reducible (refine Veil.out ?_; apply wl_loadC onek4)); (case hw => rfl); (case hx => rfl); (case hc => exact KP _ (by (repeat (first | with_reducible exact Ext.refl _ | with_reducible assumption | refine Ext.trans ?_ (by with_reducible assumption) | refine Ext.alloc ?_ _ _ | refine Ext.drew ?_ | refine Ext.drewN ?_ _))))))
                      refine w_ext ?_
                      rintro W0 hW0
                      refine wp_region_held_drew (S := fun w' => (0 ≤ (w' : World).heap.size)) (by kernel_rfl) (Nat.zero_le _) (fun hHeld => ?_)
                      have HH : Hid ((0 ≤ (_ : World).heap.size)) := hHeld
                      clear hHeld
                      refine wpAnyH_take (i := 0) (v := ?_) rfl (by kernel_rfl) (by kernel_rfl) (by kernel_rfl) (fun _ _ _ h => h) (Or.inl ⟨by rfl, ?_⟩) HH.out ?_
                      rotate_left
                      · intro w hSw; go_simp; try with_reducible rfl
                      change wpAnyH _ _ _ _ _ _ _ (Act.put _ (some 77) _) _
                      simp only [Act.put, List.setIfInBounds_toArray, List.set_cons_zero, List.set_cons_succ]
                      refine wpAnyH_take (i := 1) (v := ?_) rfl (by kernel_rfl) (by kernel_rfl) (by kernel_rfl) (fun _ _ _ h => h) (Or.inl ⟨by rfl, ?_⟩) HH.out ?_
                      rotate_left
                      · intro w hSw; go_simp; try with_reducible rfl
                      change wpAnyH _ _ _ _ _ _ _ (Act.put _ (some 78) _) _
                      simp only [Act.put, List.setIfInBounds_toArray, List.set_cons_zero, List.set_cons_succ]
                      refine wpAnyH_take (i := 2) (v := ?_) rfl (by kernel_rfl) (by kernel_rfl) (by kernel_rfl) (fun _ _ _ h => h) (Or.inl ⟨by rfl, ?_⟩) HH.out ?_
                      rotate_left
                      · intro w hSw; go_simp; try with_reducible rfl
                      change wpAnyH _ _ _ _ _ _ _ (Act.put _ (some 79) _) _
                      simp only [Act.put, List.setIfInBounds_toArray, List.set_cons_zero, List.set_cons_succ]
                      refine wpAnyH_take (i := 4) (v := ?_) rfl (by kernel_rfl) (by kernel_rfl) (by kernel_rfl) (fun _ _ _ h => h) (Or.inl ⟨by rfl, ?_⟩) HH.out ?_
                      rotate_left
                      · intro w hSw; go_simp; try with_reducible rfl
                      change wpAnyH _ _ _ _ _ _ _ (Act.put _ (some 81) _) _
                      simp only [Act.put, List.setIfInBounds_toArray, List.set_cons_zero, List.set_cons_succ]
                      refine wpAnyH_take (i := 5) (v := ?_) rfl (by kernel_rfl) (by kernel_rfl) (by kernel_rfl) (fun _ _ _ h => h) (Or.inl ⟨by rfl, ?_⟩) HH.out ?_
                      rotate_left
                      · intro w hSw; go_simp; try with_reducible rfl
                      change wpAnyH _ _ _ _ _ _ _ (Act.put _ (some 82) _) _
                      simp only [Act.put, List.setIfInBounds_toArray, List.set_cons_zero, List.set_cons_succ]
                      refine wpAnyH_take (i := 6) (v := ?_) rfl (by kernel_rfl) (by kernel_rfl) (by kernel_rfl) (fun _ _ _ h => h) (Or.inl ⟨by rfl, ?_⟩) HH.out ?_
                      rotate_left
                      · intro w hSw; go_simp; try with_reducible rfl
                      change wpAnyH _ _ _ _ _ _ _ (Act.put _ (some 83) _) _
                      simp only [Act.put, List.setIfInBounds_toArray, List.set_cons_zero, List.set_cons_succ]
                      refine wpAnyH_ready (rs := [3]) (by kernel_rfl) (by simp) ?_
                      refine AllReadyH.cons rfl (fun K hK => ?_) AllReadyH.nil
                      refine step_any rfl (op_loadK rfl onek5 rfl (KQ _ (by (repeat (first | with_reducible exact Ext.refl _ | with_reducible assumption | refine Ext.trans ?_ (by with_reducible assumption) | refine Ext.alloc ?_ _ _ | refine Ext.drew ?_ | refine Ext.drewN ?_ _)))) ?_)
                      refine hK.out _ _ HH.out (fun hHeld => ?_)
                      clear hK K HH
                      have HH : Hid ((0 ≤ (_ : World).heap.size)) := hHeld
                      clear hHeld
                      change wpAnyH _ _ _ _ _ _ _ (Act.put _ (some 80) _) _
                      simp only [Act.put, List.setIfInBounds_toArray, List.set_cons_zero, List.set_cons_succ]
                      refine wpAnyH_take (i := 7) (v := ?_) rfl (by kernel_rfl) (by kernel_rfl) (by kernel_rfl) (fun _ _ _ h => h) (Or.inl ⟨by rfl, ?_⟩) HH.out ?_
                      rotate_left
                      · intro w hSw; go_simp; try with_reducible rfl
                      change wpAnyH _ _ _ _ _ _ _ (Act.put _ (some 84) _) _
                      simp only [Act.put, List.setIfInBounds_toArray, List.set_cons_zero, List.set_cons_succ]
                      refine wpAnyH_take (i := 8) (v := ?_) rfl (by kernel_rfl) (by kernel_rfl) (by kernel_rfl) (fun _ _ _ h => h) (Or.inl ⟨by rfl, ?_⟩) HH.out ?_
                      rotate_left
                      · intro w hSw; go_simp; try with_reducible rfl
                      change wpAnyH _ _ _ _ _ _ _ (Act.put _ (some 85) _) _
                      simp only [Act.put, List.setIfInBounds_toArray, List.set_cons_zero, List.set_cons_succ]
                      refine wpAnyH_ready (rs := [9]) (by kernel_rfl) (by simp) ?_
                      refine AllReadyH.cons rfl (fun K hK => ?_) AllReadyH.nil
                      refine step_any rfl (op_store1 rfl onek5 rfl rfl rfl (bQ.ext (by (repeat (first | with_reducible exact Ext.refl _ | with_reducible assumption | refine Ext.trans ?_ (by with_reducible assumption) | refine Ext.alloc ?_ _ _ | refine Ext.drew ?_ | refine Ext.drewN ?_ _)))) (by omega) ?_)
                      rintro W7 b7 m7
                      refine hK.out _ _ (Nat.zero_le _) (fun hHeld => ?_)
                      clear hK K HH
                      have HH : Hid ((0 ≤ (_ : World).heap.size)) := hHeld
                      clear hHeld
                      change wpAnyH _ _ _ _ _ _ _ (Act.put _ none _) _
                      simp only [Act.put, List.setIfInBounds_toArray, List.set_cons_zero, List.set_cons_succ]
                      refine wpAnyH_done (by kernel_rfl) ?_ _
                      go_wp2
                      go_roundw
                      case rel =>
                        have eW : Ext wr W0 := by (repeat (first | with_reducible exact Ext.refl _ | with_reducible assumption | refine Ext.trans ?_ (by with_reducible assumption) | refine Ext.alloc ?_ _ _ | refine Ext.drew ?_ | refine Ext.drewN ?_ _))
                        refine ⟨i + 1, _, int_eq (by omega), by omega, b7, fun j hj => ?_, (bP.ext eW.drew).mod m7 hPQ, (bR.ext eW.drew).mod m7 hRQ, Ext.trans_mod (hE.trans eW.drew) m7 (fun q hq => by have hq2 : q = Qb := hq; rw [hq2]; exact gQw)⟩
                        by_cases e : j = q
                        · subst e
                          refine (updv_same _ _ _).trans ?_
                          rw [hqn, hst]
                          exact int_eq (hor _ (by decide))
                        · rw [updv_ne _ _ e, hoth j hj e]; exact fQ j hj
                      case measure => simp [intOf]; omega
                    · go_upto_region 27 with (first | ((with_reducible (refine Veil.out ?_; apply wl_loadC onek4)); (case hw => rfl); (case hx => rfl); (case hc => exact KP _ (by (repeat (first | with_reducible exact Ext.refl _ | with_reducible assumption | refine Ext.trans ?_ (by with_reducible assumption) | refine Ext.alloc ?_ _ _ | refine Ext.drew ?_ | refine Ext.drewN ?_ _))))))
                      refine w_ext ?_
                      rintro W0 hW0
                      refine wp_region_held_drew (S := fun w' => (0 ≤ (w' : World).heap.size)) (by kernel_rfl) (Nat.zero_le _) (fun hHeld => ?_)
                      have HH : Hid ((0 ≤ (_ : World).heap.size)) := hHeld
                      clear hHeld
                      refine wpAnyH_take (i := 0) (v := ?_) rfl (by kernel_rfl) (by kernel_rfl) (by kernel_rfl) (fun _ _ _ h => h) (Or.inl ⟨by rfl, ?_⟩) HH.out ?_
                      rotate_left
                      · intro w hSw; go_simp; try with_reducible rfl
                      change wpAnyH _ _ _ _ _ _ _ (Act.put _ (some 77) _) _
                      simp only [Act.put, List.setIfInBounds_toArray, List.set_cons_zero, List.set_cons_succ]
                      refine wpAnyH_take (i := 1) (v := ?_) rfl (by kernel_rfl) (by kernel_rfl) (by kernel_rfl) (fun _ _ _ h => h) (Or.inl ⟨by rfl, ?_⟩) HH.out ?_
                      rotate_left
                      · intro w hSw; go_simp; try with_reducible rfl
                      change wpAnyH _ _ _ _ _ _ _ (Act.put _ (some 78) _) _
                      simp only [Act.put, List.setIfInBounds_toArray, List.set_cons_zero, List.set_cons_succ]
                      refine wpAnyH_take (i := 2) (v := ?_) rfl (by kernel_rfl) (by kernel_rfl) (by kernel_rfl) (fun _ _ _ h => h) (Or.inl ⟨by rfl, ?_⟩) HH.out ?_
                      rotate_left
                      · intro w hSw; go_simp; try with_reducible rfl
                      change wpAnyH _ _ _ _ _ _ _ (Act.put _ (some 79) _) _
                      simp only [Act.put, List.setIfInBounds_toArray, List.set_cons_zero, List.set_cons_succ]
                      refine wpAnyH_take (i := 4) (v := ?_) rfl (by kernel_rfl) (by kernel_rfl) (by kernel_rfl) (fun _ _ _ h => h) (Or.inl ⟨by rfl, ?_⟩) HH.out ?_
                      rotate_left
                      · intro w hSw; go_simp; try with_reducible rfl
                      change wpAnyH _ _ _ _ _ _ _ (Act.put _ (some 81) _) _
                      simp only [Act.put, List.setIfInBounds_toArray, List.set_cons_zero, List.set_cons_succ]
                      refine wpAnyH_take (i := 5) (v := ?_) rfl (by kernel_rfl) (by kernel_rfl) (by kernel_rfl) (fun _ _ _ h => h) (Or.inl ⟨by rfl, ?_⟩) HH.out ?_
                      rotate_left
                      · intro w hSw; go_simp; try with_reducible rfl
                      change wpAnyH _ _ _ _ _ _ _ (Act.put _ (some 82) _) _
                      simp only [Act.put, List.setIfInBounds_toArray, List.set_cons_zero, List.set_cons_succ]
                      refine wpAnyH_take (i := 6) (v := ?_) rfl (by kernel_rfl) (by kernel_rfl) (by kernel_rfl) (fun _ _ _ h => h) (Or.inl ⟨by rfl, ?_⟩) HH.out ?_
                      rotate_left
                      · intro w hSw; go_simp; try with_reducible rfl
                      change wpAnyH _ _ _ _ _ _ _ (Act.put _ (some 83) _) _
                      simp only [Act.put, List.setIfInBounds_toArray, List.set_cons_zero, List.set_cons_succ]
                      refine wpAnyH_ready (rs := [3]) (by kernel_rfl) (by simp) ?_
                      refine AllReadyH.cons rfl (fun K hK => ?_) AllReadyH.nil
                      refine step_any rfl (op_loadK rfl onek5 rfl (KQ _ (by (repeat (first | with_reducible exact Ext.refl _ | with_reducible assumption | refine Ext.trans ?_ (by with_reducible assumption) | refine Ext.alloc ?_ _ _ | refine Ext.drew ?_ | refine Ext.drewN ?_ _)))) ?_)
                      refine hK.out _ _ HH.out (fun hHeld => ?_)
                      clear hK K HH
                      have HH : Hid ((0 ≤ (_ : World).heap.size)) := hHeld
                      clear hHeld
                      change wpAnyH _ _ _ _ _ _ _ (Act.put _ (some 80) _) _
                      simp only [Act.put, List.setIfInBounds_toArray, List.set_cons_zero, List.set_cons_succ]
                      refine wpAnyH_take (i := 7) (v := ?_) rfl (by kernel_rfl) (by kernel_rfl) (by kernel_rfl) (fun _ _ _ h => h) (Or.inl ⟨by rfl, ?_⟩) HH.out ?_
                      rotate_left
                      · intro w hSw; go_simp; try with_reducible rfl
                      change wpAnyH _ _ _ _ _ _ _ (Act.put _ (some 84) _) _
                      simp only [Act.put, List.setIfInBounds_toArray, List.set_cons_zero, List.set_cons_succ]
                      refine wpAnyH_take (i := 8) (v := ?_) rfl (by kernel_rfl) (by kernel_rfl) (by kernel_rfl) (fun _ _ _ h => h) (Or.inl ⟨by rfl, ?_⟩) HH.out ?_
                      rotate_left
                      · intro w hSw; go_simp; try with_reducible rfl
                      change wpAnyH _ _ _ _ _ _ _ (Act.put _ (some 85) _) _
                      simp only [Act.put, List.setIfInBounds_toArray, List.set_cons_zero, List.set_cons_succ]
                      refine wpAnyH_ready (rs := [9]) (by kernel_rfl) (by simp) ?_
                      refine AllReadyH.cons rfl (fun K hK => ?_) AllReadyH.nil
                      refine step_any rfl (op_store1 rfl onek5 rfl rfl rfl (bQ.ext (by (repeat (first | with_reducible exact Ext.refl _ | with_reducible assumption | refine Ext.trans ?_ (by with_reducible assumption) | refine Ext.alloc ?_ _ _ | refine Ext.drew ?_ | refine Ext.drewN ?_ _)))) (by omega) ?_)
                      rintro W7 b7 m7
                      refine hK.out _ _ (Nat.zero_le _) (fun hHeld => ?_)
                      clear hK K HH
                      have HH : Hid ((0 ≤ (_ : World).heap.size)) := hHeld
                      clear hHeld
                      change wpAnyH _ _ _ _ _ _ _ (Act.put _ none _) _
                      simp only [Act.put, List.setIfInBounds_toArray, List.set_cons_zero, List.set_cons_succ]
                      refine wpAnyH_done (by kernel_rfl) ?_ _
                      go_wp2
                      go_roundw
                      case rel =>
                        have eW : Ext wr W0 := by (repeat (first | with_reducible exact Ext.refl _ | with_reducible assumption | refine Ext.trans ?_ (by with_reducible assumption) | refine Ext.alloc ?_ _ _ | refine Ext.drew ?_ | refine Ext.drewN ?_ _))
                        refine ⟨i + 1, _, int_eq (by omega), by omega, b7, fun j hj => ?_, (bP.ext eW.drew).mod m7 hPQ, (bR.ext eW.drew).mod m7 hRQ, Ext.trans_mod (hE.trans eW.drew) m7 (fun q hq => by have hq2 : q = Qb := hq; rw [hq2]; exact gQw)⟩
                        by_cases e : j = q
                        · subst e
                          refine (updv_same _ _ _).trans ?_
                          rw [hqn, hst]
                          exact int_eq (hor _ (by decide))
                        · rw [updv_ne _ _ e, hoth j hj e]; exact fQ j hj
                      case measure => simp [intOf]; omega
                    · go_upto_region 27 with (first | ((with_reducible (refine Veil.out ?_; apply wl_loadC onek4)); (case hw => rfl); (case hx => rfl); (case hc => exact KP _ (by (repeat (first | with_reducible exact Ext.refl _ | with_reducible assumption | refine Ext.trans ?_ (by with_reducible assumption) | refine Ext.alloc ?_ _ _ | refine Ext.drew ?_ | refine Ext.drewN ?_ _))))))
                      refine w_ext ?_
                      rintro W0 hW0
                      refine wp_region_held_drew (S := fun w' => (0 ≤ (w' : World).heap.size)) (by kernel_rfl) (Nat.zero_le _) (fun hHeld => ?_)
                      have HH : Hid ((0 ≤ (_ : World).heap.size)) := hHeld
                      clear hHeld
                      refine wpAnyH_take (i := 0) (v := ?_) rfl (by kernel_rfl) (by kernel_rfl) (by kernel_rfl) (fun _ _ _ h => h) (Or.inl ⟨by rfl, ?_⟩) HH.out ?_
                      rotate_left
                      · intro w hSw; go_simp; try with_reducible rfl
                      change wpAnyH _ _ _ _ _ _ _ (Act.put _ (some 77) _) _
                      simp only [Act.put, List.setIfInBounds_toArray, List.set_cons_zero, List.set_cons_succ]
                      refine wpAnyH_take (i := 1) (v := ?_) rfl (by kernel_rfl) (by kernel_rfl) (by kernel_rfl) (fun _ _ _ h => h) (Or.inl ⟨by rfl, ?_⟩) HH.out ?_
                      rotate_left
                      · intro w hSw; go_simp; try with_reducible rfl
                      change wpAnyH _ _ _ _ _ _ _ (Act.put _ (some 78) _) _
                      simp only [Act.put, List.setIfInBounds_toArray, List.set_cons_zero, List.set_cons_succ]
                      refine wpAnyH_take (i := 2) (v := ?_) rfl (by kernel_rfl) (by kernel_rfl) (by kernel_rfl) (fun _ _ _ h => h) (Or.inl ⟨by rfl, ?_⟩) HH.out ?_
                      rotate_left
                      · intro w hSw; go_simp; try with_reducible rfl
                      change wpAnyH _ _ _ _ _ _ _ (Act.put _ (some 79) _) _
                      simp only [Act.put, List.setIfInBounds_toArray, List.set_cons_zero, List.set_cons_succ]
                      refine wpAnyH_take (i := 4) (v := ?_) rfl (by kernel_rfl) (by kernel_rfl) (by kernel_rfl) (fun _ _ _ h => h) (Or.inl ⟨by rfl, ?_⟩) HH.out ?_
                      rotate_left
                      · intro w hSw; go_simp; try with_reducible rfl
                      change wpAnyH _ _ _ _ _ _ _ (Act.put _ (some 81) _) _
                      simp only [Act.put, List.setIfInBounds_toArray, List.set_cons_zero, List.set_cons_succ]
                      refine wpAnyH_take (i := 5) (v := ?_) rfl (by kernel_rfl) (by kernel_rfl) (by kernel_rfl) (fun _ _ _ h => h) (Or.inl ⟨by rfl, ?_⟩) HH.out ?_
                      rotate_left
                      · intro w hSw; go_simp; try with_reducible rfl
                      change wpAnyH _ _ _ _ _ _ _ (Act.put _ (some 82) _) _
                      simp only [Act.put, List.setIfInBounds_toArray, List.set_cons_zero, List.set_cons_succ]
                      refine wpAnyH_take (i := 6) (v := ?_) rfl (by kernel_rfl) (by kernel_rfl) (by kernel_rfl) (fun _ _ _ h => h) (Or.inl ⟨by rfl, ?_⟩) HH.out ?_
                      rotate_left
                      · intro w hSw; go_simp; try with_reducible rfl
                      change wpAnyH _ _ _ _ _ _ _ (Act.put _ (some 83) _) _
                      simp only [Act.put, List.setIfInBounds_toArray, List.set_cons_zero, List.set_cons_succ]
                      refine wpAnyH_ready (rs := [3]) (by kernel_rfl) (by simp) ?_
                      refine AllReadyH.cons rfl (fun K hK => ?_) AllReadyH.nil
                      refine step_any rfl (op_loadK rfl onek5 rfl (KQ _ (by (repeat (first | with_reducible exact Ext.refl _ | with_reducible assumption | refine Ext.trans ?_ (by with_reducible assumption) | refine Ext.alloc ?_ _ _ | refine Ext.drew ?_ | refine Ext.drewN ?_ _)))) ?_)
                      refine hK.out _ _ HH.out (fun hHeld => ?_)
                      clear hK K HH
                      have HH : Hid ((0 ≤ (_ : World).heap.size)) := hHeld
                      clear hHeld
                      change wpAnyH _ _ _ _ _ _ _ (Act.put _ (some 80) _) _
                      simp only [Act.put, List.setIfInBounds_toArray, List.set_cons_zero, List.set_cons_succ]
                      refine wpAnyH_take (i := 7) (v := ?_) rfl (by kernel_rfl) (by kernel_rfl) (by kernel_rfl) (fun _ _ _ h => h) (Or.inl ⟨by rfl, ?_⟩) HH.out ?_
                      rotate_left
                      · intro w hSw; go_simp; try with_reducible rfl
                      change wpAnyH _ _ _ _ _ _ _ (Act.put _ (some 84) _) _
                      simp only [Act.put, List.setIfInBounds_toArray, List.set_cons_zero, List.set_cons_succ]
                      refine wpAnyH_take (i := 8) (v := ?_) rfl (by kernel_rfl) (by kernel_rfl) (by kernel_rfl) (fun _ _ _ h => h) (Or.inl ⟨by rfl, ?_⟩) HH.out ?_
                      rotate_left
                      · intro w hSw; go_simp; try with_reducible rfl
                      change wpAnyH _ _ _ _ _ _ _ (Act.put _ (some 85) _) _
                      simp only [Act.put, List.setIfInBounds_toArray, List.set_cons_zero, List.set_cons_succ]
                      refine wpAnyH_ready (rs := [9]) (by kernel_rfl) (by simp) ?_
                      refine AllReadyH.cons rfl (fun K hK => ?_) AllReadyH.nil
                      refine step_any rfl (op_store1 rfl onek5 rfl rfl rfl (bQ.ext (by (repeat (first | with_reducible exact Ext.refl _ | with_reducible assumption | refine Ext.trans ?_ (by with_reducible assumption) | refine Ext.alloc ?_ _ _ | refine Ext.drew ?_ | refine Ext.drewN ?_ _)))) (by omega) ?_)
                      rintro W7 b7 m7
                      refine hK.out _ _ (Nat.zero_le _) (fun hHeld => ?_)
                      clear hK K HH
                      have HH : Hid ((0 ≤ (_ : World).heap.size)) := hHeld
                      clear hHeld
                      change wpAnyH _ _ _ _ _ _ _ (Act.put _ none _) _
                      simp only [Act.put, List.setIfInBounds_toArray, List.set_cons_zero, List.set_cons_succ]
                      refine wpAnyH_done (by kernel_rfl) ?_ _
                      go_wp2
                      go_roundw
                      case rel =>
                        have eW : Ext wr W0 := by (repeat (first | with_reducible exact Ext.refl _ | with_reducible assumption | refine Ext.trans ?_ (by with_reducible assumption) | refine Ext.alloc ?_ _ _ | refine Ext.drew ?_ | refine Ext.drewN ?_ _))
                        refine ⟨i + 1, _, int_eq (by omega), by omega, b7, fun j hj => ?_, (bP.ext eW.drew).mod m7 hPQ, (bR.ext eW.drew).mod m7 hRQ, Ext.trans_mod (hE.trans eW.drew) m7 (fun q hq => by have hq2 : q = Qb := hq; rw [hq2]; exact gQw)⟩
                        by_cases e : j = q
                        · subst e
                          refine (updv_same _ _ _).trans ?_
                          rw [hqn, hst]
                          exact int_eq (hor _ (by decide))
                        · rw [updv_ne _ _ e, hoth j hj e]; exact fQ j hj
                      case measure => simp [intOf]; omega
                    · go_upto_region 27 with (first | ((with_reducible (refine Veil.out ?_; apply wl_loadC onek4)); (case hw => rfl); (case hx => rfl); (case hc => exact KP _ (by (repeat (first | with_reducible exact Ext.refl _ | with_reducible assumption | refine Ext.trans ?_ (by with_reducible assumption) | refine Ext.alloc ?_ _ _ | refine Ext.drew ?_ | refine Ext.drewN ?_ _))))))
                      refine w_ext ?_
                      rintro W0 hW0
                      refine wp_region_held_drew (S := fun w' => (0 ≤ (w' : World).heap.size)) (by kernel_rfl) (Nat.zero_le _) (fun hHeld => ?_)
                      have HH : Hid ((0 ≤ (_ : World).heap.size)) := hHeld
                      clear hHeld
                      refine wpAnyH_take (i := 0) (v := ?_) rfl (by kernel_rfl) (by kernel_rfl) (by kernel_rfl) (fun _ _ _ h => h) (Or.inl ⟨by rfl, ?_⟩) HH.out ?_
                      rotate_left
                      · intro w hSw; go_simp; try with_reducible rfl
                      change wpAnyH _ _ _ _ _ _ _ (Act.put _ (some 77) _) _
                      simp only [Act.put, List.setIfInBounds_toArray, List.set_cons_zero, List.set_cons_succ]
                      refine wpAnyH_take (i := 1) (v := ?_) rfl (by kernel_rfl) (by kernel_rfl) (by kernel_rfl) (fun _ _ _ h => h) (Or.inl ⟨by rfl, ?_⟩) HH.out ?_
                      rotate_left
                      · intro w hSw; go_simp; try with_reducible rfl
                      change wpAnyH _ _ _ _ _ _ _ (Act.put _ (some 78) _) _
                      simp only [Act.put, List.setIfInBounds_toArray, List.set_cons_zero, List.set_cons_succ]
                      refine wpAnyH_take (i := 2) (v := ?_) rfl (by kernel_rfl) (by kernel_rfl) (by kernel_rfl) (fun _ _ _ h => h) (Or.inl ⟨by rfl, ?_⟩) HH.out ?_
                      rotate_left
                      · intro w hSw; go_simp; try with_reducible rfl
                      change wpAnyH _ _ _ _ _ _ _ (Act.put _ (some 79) _) _
                      simp only [Act.put, List.setIfInBounds_toArray, List.set_cons_zero, List.set_cons_succ]
                      refine wpAnyH_take (i := 4) (v := ?_) rfl (by kernel_rfl) (by kernel_rfl) (by kernel_rfl) (fun _ _ _ h => h) (Or.inl ⟨by rfl, ?_⟩) HH.out ?_
                      rotate_left
                      · intro w hSw; go_simp; try with_reducible rfl
                      change wpAnyH _ _ _ _ _ _ _ (Act.put _ (some 81) _) _
                      simp only [Act.put, List.setIfInBounds_toArray, List.set_cons_zero, List.set_cons_succ]
                      refine wpAnyH_take (i := 5) (v := ?_) rfl (by kernel_rfl) (by kernel_rfl) (by kernel_rfl) (fun _ _ _ h => h) (Or.inl ⟨by rfl, ?_⟩) HH.out ?_
                      rotate_left
                      · intro w hSw; go_simp; try with_reducible rfl
                      change wpAnyH _ _ _ _ _ _ _ (Act.put _ (some 82) _) _
                      simp only [Act.put, List.setIfInBounds_toArray, List.set_cons_zero, List.set_cons_succ]
                      refine wpAnyH_take (i := 6) (v := ?_) rfl (by kernel_rfl) (by kernel_rfl) (by kernel_rfl) (fun _ _ _ h => h) (Or.inl ⟨by rfl, ?_⟩) HH.out ?_
                      rotate_left
                      · intro w hSw; go_simp; try with_reducible rfl
                      change wpAnyH _ _ _ _ _ _ _ (Act.put _ (some 83) _) _
                      simp only [Act.put, List.setIfInBounds_toArray, List.set_cons_zero, List.set_cons_succ]
                      refine wpAnyH_ready (rs := [3]) (by kernel_rfl) (by simp) ?_
                      refine AllReadyH.cons rfl (fun K hK => ?_) AllReadyH.nil
                      refine step_any rfl (op_loadK rfl onek5 rfl (KQ _ (by (repeat (first | with_reducible exact Ext.refl _ | with_reducible assumption | refine Ext.trans ?_ (by with_reducible assumption) | refine Ext.alloc ?_ _ _ | refine Ext.drew ?_ | refine Ext.drewN ?_ _)))) ?_)
                      refine hK.out _ _ HH.out (fun hHeld => ?_)
                      clear hK K HH
                      have HH : Hid ((0 ≤ (_ : World).heap.size)) := hHeld
                      clear hHeld
                      change wpAnyH _ _ _ _ _ _ _ (Act.put _ (some 80) _) _
                      simp only [Act.put, List.setIfInBounds_toArray, List.set_cons_zero, List.set_cons_succ]
                      refine wpAnyH_take (i := 7) (v := ?_) rfl (by kernel_rfl) (by kernel_rfl) (by kernel_rfl) (fun _ _ _ h => h) (Or.inl ⟨by rfl, ?_⟩) HH.out ?_
                      rotate_left
                      · intro w hSw; go_simp; try with_reducible rfl
                      change wpAnyH _ _ _ _ _ _ _ (Act.put _ (some 84) _) _
                      simp only [Act.put, List.setIfInBounds_toArray, List.set_cons_zero, List.set_cons_succ]
                      refine wpAnyH_take (i := 8) (v := ?_) rfl (by kernel_rfl) (by kernel_rfl) (by kernel_rfl) (fun _ _ _ h => h) (Or.inl ⟨by rfl, ?_⟩) HH.out ?_
                      rotate_left
                      · intro w hSw; go_simp; try with_reducible rfl
                      change wpAnyH _ _ _ _ _ _ _ (Act.put _ (some 85) _) _
                      simp only [Act.put, List.setIfInBounds_toArray, List.set_cons_zero, List.set_cons_succ]
                      refine wpAnyH_ready (rs := [9]) (by kernel_rfl) (by simp) ?_
                      refine AllReadyH.cons rfl (fun K hK => ?_) AllReadyH.nil
                      refine step_any rfl (op_store1 rfl onek5 rfl rfl rfl (bQ.ext (by (repeat (first | with_reducible exact Ext.refl _ | with_reducible assumption | refine Ext.trans ?_ (by with_reducible assumption) | refine Ext.alloc ?_ _ _ | refine Ext.drew ?_ | refine Ext.drewN ?_ _)))) (by omega) ?_)
                      rintro W7 b7 m7
                      refine hK.out _ _ (Nat.zero_le _) (fun hHeld => ?_)
                      clear hK K HH
                      have HH : Hid ((0 ≤ (_ : World).heap.size)) := hHeld
                      clear hHeld
                      change wpAnyH _ _ _ _ _ _ _ (Act.put _ none _) _
                      simp only [Act.put, List.setIfInBounds_toArray, List.set_cons_zero, List.set_cons_succ]
                      refine wpAnyH_done (by kernel_rfl) ?_ _
                      go_wp2
                      go_roundw
                      case rel =>
                        have eW : Ext wr W0 := by (repeat (first | with_reducible exact Ext.refl _ | with_reducible assumption | refine Ext.trans ?_ (by with_reducible assumption) | refine Ext.alloc ?_ _ _ | refine Ext.drew ?_ | refine Ext.drewN ?_ _))
                        refine ⟨i + 1, _, int_eq (by omega), by omega, b7, fun j hj => ?_, (bP.ext eW.drew).mod m7 hPQ, (bR.ext eW.drew).mod m7 hRQ, Ext.trans_mod (hE.trans eW.drew) m7 (fun q hq => by have hq2 : q = Qb := hq; rw [hq2]; exact gQw)⟩
                        by_cases e : j = q
                        · subst e
                          refine (updv_same _ _ _).trans ?_
                          rw [hqn, hst]
                          exact int_eq (hor _ (by decide))
                        · rw [updv_ne _ _ e, hoth j hj e]; exact fQ j hj
                      case measure => simp [intOf]; omega
                    · go_upto_region 27 with (first | ((with_reducible (refine Veil.out ?_; apply wl_loadC onek4)); (case hw => rfl); (case hx => rfl); (case hc => exact KP _ (by (repeat (first | with_reducible exact Ext.refl _ | with_reducible assumption | refine Ext.trans ?_ (by with_reducible assumption) | refine Ext.alloc ?_ _ _ | refine Ext.drew ?_ | refine Ext.drewN ?_ _))))))
                      refine w_ext ?_
                      rintro W0 hW0
                      refine wp_region_held_drew (S := fun w' => (0 ≤ (w' : World).heap.size)) (by kernel_rfl) (Nat.zero_le _) (fun hHeld => ?_)
                      have HH : Hid ((0 ≤ (_ : World).heap.size)) := hHeld
                      clear hHeld
                      refine wpAnyH_take (i := 0) (v := ?_) rfl (by kernel_rfl) (by kernel_rfl) (by kernel_rfl) (fun _ _ _ h => h) (Or.inl ⟨by rfl, ?_⟩) HH.out ?_
                      rotate_left
                      · intro w hSw; go_simp; try with_reducible rfl
                      change wpAnyH _ _ _ _ _ _ _ (Act.put _ (some 77) _) _
                      simp only [Act.put, List.setIfInBounds_toArray, List.set_cons_zero, List.set_cons_succ]
                      refine wpAnyH_take (i := 1) (v := ?_) rfl (by kernel_rfl) (by kernel_rfl) (by kernel_rfl) (fun _ _ _ h => h) (Or.inl ⟨by rfl, ?_⟩) HH.out ?_
                      rotate_left
                      · intro w hSw; go_simp; try with_reducible rfl
                      change wpAnyH _ _ _ _ _ _ _ (Act.put _ (some 78) _) _
                      simp only [Act.put, List.setIfInBounds_toArray, List.set_cons_zero, List.set_cons_succ]
                      refine wpAnyH_take (i := 2) (v := ?_) rfl (by kernel_rfl) (by kernel_rfl) (by kernel_rfl) (fun _ _ _ h => h) (Or.inl ⟨by rfl, ?_⟩) HH.out ?_
                      rotate_left
                      · intro w hSw; go_simp; try with_reducible rfl
                      change wpAnyH _ _ _ _ _ _ _ (Act.put _ (some 79) _) _
                      simp only [Act.put, List.setIfInBounds_toArray, List.set_cons_zero, List.set_cons_succ]
                      refine wpAnyH_take (i := 4) (v := ?_) rfl (by kernel_rfl) (by kernel_rfl) (by kernel_rfl) (fun _ _ _ h => h) (Or.inl ⟨by rfl, ?_⟩) HH.out ?_
                      rotate_left
                      · intro w hSw; go_simp; try with_reducible rfl
                      change wpAnyH _ _ _ _ _ _ _ (Act.put _ (some 81) _) _
                      simp only [Act.put, List.setIfInBounds_toArray, List.set_cons_zero, List.set_cons_succ]
                      refine wpAnyH_take (i := 5) (v := ?_) rfl (by kernel_rfl) (by kernel_rfl) (by kernel_rfl) (fun _ _ _ h => h) (Or.inl ⟨by rfl, ?_⟩) HH.out ?_
                      rotate_left
                      · intro w hSw; go_simp; try with_reducible rfl
                      change wpAnyH _ _ _ _ _ _ _ (Act.put _ (some 82) _) _
                      simp only [Act.put, List.setIfInBounds_toArray, List.set_cons_zero, List.set_cons_succ]
                      refine wpAnyH_take (i := 6) (v := ?_) rfl (by kernel_rfl) (by kernel_rfl) (by kernel_rfl) (fun _ _ _ h => h) (Or.inl ⟨by rfl, ?_⟩) HH.out ?_
                      rotate_left
                      · intro w hSw; go_simp; try with_reducible rfl
                      change wpAnyH _ _ _ _ _ _ _ (Act.put _ (some 83) _) _
                      simp only [Act.put, List.setIfInBounds_toArray, List.set_cons_zero, List.set_cons_succ]
                      refine wpAnyH_ready (rs := [3]) (by kernel_rfl) (by simp) ?_
                      refine AllReadyH.cons rfl (fun K hK => ?_) AllReadyH.nil
                      refine step_any rfl (op_loadK rfl onek5 rfl (KQ _ (by (repeat (first | with_reducible exact Ext.refl _ | with_reducible assumption | refine Ext.trans ?_ (by with_reducible assumption) | refine Ext.alloc ?_ _ _ | refine Ext.drew ?_ | refine Ext.drewN ?_ _)))) ?_)
                      refine hK.out _ _ HH.out (fun hHeld => ?_)
                      clear hK K HH
                      have HH : Hid ((0 ≤ (_ : World).heap.size)) := hHeld
                      clear hHeld
                      change wpAnyH _ _ _ _ _ _ _ (Act.put _ (some 80) _) _
                      simp only [Act.put, List.setIfInBounds_toArray, List.set_cons_zero, List.set_cons_succ]
                      refine wpAnyH_take (i := 7) (v := ?_) rfl (by kernel_rfl) (by kernel_rfl) (by kernel_rfl) (fun _ _ _ h => h) (Or.inl ⟨by rfl, ?_⟩) HH.out ?_
                      rotate_left
                      · intro w hSw; go_simp; try with_reducible rfl
                      change wpAnyH _ _ _ _ _ _ _ (Act.put _ (some 84) _) _
                      simp only [Act.put, List.setIfInBounds_toArray, List.set_cons_zero, List.set_cons_succ]
                      refine wpAnyH_take (i := 8) (v := ?_) rfl (by kernel_rfl) (by kernel_rfl) (by kernel_rfl) (fun _ _ _ h => h) (Or.inl ⟨by rfl, ?_⟩) HH.out ?_
                      rotate_left
                      · intro w hSw; go_simp; try with_reducible rfl
                      change wpAnyH _ _ _ _ _ _ _ (Act.put _ (some 85) _) _
                      simp only [Act.put, List.setIfInBounds_toArray, List.set_cons_zero, List.set_cons_succ]
                      refine wpAnyH_ready (rs := [9]) (by kernel_rfl) (by simp) ?_
                      refine AllReadyH.cons rfl (fun K hK => ?_) AllReadyH.nil
                      refine step_any rfl (op_store1 rfl onek5 rfl rfl rfl (bQ.ext (by (repeat (first | with_reducible exact Ext.refl _ | with_reducible assumption | refine Ext.trans ?_ (by with_reducible assumption) | refine Ext.alloc ?_ _ _ | refine Ext.drew ?_ | refine Ext.drewN ?_ _)))) (by omega) ?_)
                      rintro W7 b7 m7
                      refine hK.out _ _ (Nat.zero_le _) (fun hHeld => ?_)
                      clear hK K HH
                      have HH : Hid ((0 ≤ (_ : World).heap.size)) := hHeld
                      clear hHeld
                      change wpAnyH _ _ _ _ _ _ _ (Act.put _ none _) _
                      simp only [Act.put, List.setIfInBounds_toArray, List.set_cons_zero, List.set_cons_succ]
                      refine wpAnyH_done (by kernel_rfl) ?_ _
                      go_wp2
                      go_roundw
                      case rel =>
                        have eW : Ext wr W0 := by (repeat (first | with_reducible exact Ext.refl _ | with_reducible assumption | refine Ext.trans ?_ (by with_reducible assumption) | refine Ext.alloc ?_ _ _ | refine Ext.drew ?_ | refine Ext.drewN ?_ _))
                        refine ⟨i + 1, _, int_eq (by omega), by omega, b7, fun j hj => ?_, (bP.ext eW.drew).mod m7 hPQ, (bR.ext eW.drew).mod m7 hRQ, Ext.trans_mod (hE.trans eW.drew) m7 (fun q hq => by have hq2 : q = Qb := hq; rw [hq2]; exact gQw)⟩
                        by_cases e : j = q
                        · subst e
                          refine (updv_same _ _ _).trans ?_
                          rw [hqn, hst]
                          exact int_eq (hor _ (by decide))
                        · rw [updv_ne _ _ e, hoth j hj e]; exact fQ j hj
                      case measure => simp [intOf]; omega
                    · go_upto_region 27 with (first | ((with_reducible (refine Veil.out ?_; apply wl_loadC onek4)); (case hw => rfl); (case hx => rfl); (case hc => exact KP _ (by (repeat (first | with_reducible exact Ext.refl _ | with_reducible assumption | refine Ext.trans ?_ (by with_reducible assumption) | refine Ext.alloc ?_ _ _ | refine Ext.drew ?_ | refine Ext.drewN ?_ _))))))
                      refine w_ext ?_
                      rintro W0 hW0
                      refine wp_region_held_drew (S := fun w' => (0 ≤ (w' : World).heap.size)) (by kernel_rfl) (Nat.zero_le _) (fun hHeld => ?_)
                      have HH : Hid ((0 ≤ (_ : World).heap.size)) := hHeld
                      clear hHeld
                      refine wpAnyH_take (i := 0) (v := ?_) rfl (by kernel_rfl) (by kernel_rfl) (by kernel_rfl) (fun _ _ _ h => h) (Or.inl ⟨by rfl, ?_⟩) HH.out ?_
                      rotate_left
                      · intro w hSw; go_simp; try with_reducible rfl
                      change wpAnyH _ _ _ _ _ _ _ (Act.put _ (some 77) _) _
                      simp only [Act.put, List.setIfInBounds_toArray, List.set_cons_zero, List.set_cons_succ]
                      refine wpAnyH_take (i := 1) (v := ?_) rfl (by kernel_rfl) (by kernel_rfl) (by kernel_rfl) (fun _ _ _ h => h) (Or.inl ⟨by rfl, ?_⟩) HH.out ?_
                      rotate_left
                      · intro w hSw; go_simp; try with_reducible rfl
                      change wpAnyH _ _ _ _ _ _ _ (Act.put _ (some 78) _) _
                      simp only [Act.put, List.setIfInBounds_toArray, List.set_cons_zero, List.set_cons_succ]
                      refine wpAnyH_take (i := 2) (v := ?_) rfl (by kernel_rfl) (by kernel_rfl) (by kernel_rfl) (fun _ _ _ h => h) (Or.inl ⟨by rfl, ?_⟩) HH.out ?_
                      rotate_left
                      · intro w hSw; go_simp; try with_reducible rfl
                      change wpAnyH _ _ _ _ _ _ _ (Act.put _ (some 79) _) _
                      simp only [Act.put, List.setIfInBounds_toArray, List.set_cons_zero, List.set_cons_succ]
                      refine wpAnyH_take (i := 4) (v := ?_) rfl (by kernel_rfl) (by kernel_rfl) (by kernel_rfl) (fun _ _ _ h => h) (Or.inl ⟨by rfl, ?_⟩) HH.out ?_
                      rotate_left
                      · intro w hSw; go_simp; try with_reducible rfl
                      change wpAnyH _ _ _ _ _ _ _ (Act.put _ (some 81) _) _
                      simp only [Act.put, List.setIfInBounds_toArray, List.set_cons_zero, List.set_cons_succ]
                      refine wpAnyH_take (i := 5) (v := ?_) rfl (by kernel_rfl) (by kernel_rfl) (by kernel_rfl) (fun _ _ _ h => h) (Or.inl ⟨by rfl, ?_⟩) HH.out ?_
                      rotate_left
                      · intro w hSw; go_simp; try with_reducible rfl
                      change wpAnyH _ _ _ _ _ _ _ (Act.put _ (some 82) _) _
                      simp only [Act.put, List.setIfInBounds_toArray, List.set_cons_zero, List.set_cons_succ]
                      refine wpAnyH_take (i := 6) (v := ?_) rfl (by kernel_rfl) (by kernel_rfl) (by kernel_rfl) (fun _ _ _ h => h) (Or.inl ⟨by rfl, ?_⟩) HH.out ?_
                      rotate_left
                      · intro w hSw; go_simp; try with_reducible rfl
                      change wpAnyH _ _ _ _ _ _ _ (Act.put _ (some 83) _) _
                      simp only [Act.put, List.setIfInBounds_toArray, List.set_cons_zero, List.set_cons_succ]
                      refine wpAnyH_ready (rs := [3]) (by kernel_rfl) (by simp) ?_
                      refine AllReadyH.cons rfl (fun K hK => ?_) AllReadyH.nil
                      refine step_any rfl (op_loadK rfl onek5 rfl (KQ _ (by (repeat (first | with_reducible exact Ext.refl _ | with_reducible assumption | refine Ext.trans ?_ (by with_reducible assumption) | refine Ext.alloc ?_ _ _ | refine Ext.drew ?_ | refine Ext.drewN ?_ _)))) ?_)
                      refine hK.out _ _ HH.out (fun hHeld => ?_)
                      clear hK K HH
                      have HH : Hid ((0 ≤ (_ : World).heap.size)) := hHeld
                      clear hHeld
                      change wpAnyH _ _ _ _ _ _ _ (Act.put _ (some 80) _) _
                      simp only [Act.put, List.setIfInBounds_toArray, List.set_cons_zero, List.set_cons_succ]
                      refine wpAnyH_take (i := 7) (v := ?_) rfl (by kernel_rfl) (by kernel_rfl) (by kernel_rfl) (fun _ _ _ h => h) (Or.inl ⟨by rfl, ?_⟩) HH.out ?_
                      rotate_left
                      · intro w hSw; go_simp; try with_reducible rfl
                      change wpAnyH _ _ _ _ _ _ _ (Act.put _ (some 84) _) _
                      simp only [Act.put, List.setIfInBounds_toArray, List.set_cons_zero, List.set_cons_succ]
                      refine wpAnyH_take (i := 8) (v := ?_) rfl (by kernel_rfl) (by kernel_rfl) (by kernel_rfl) (fun _ _ _ h => h) (Or.inl ⟨by rfl, ?_⟩) HH.out ?_
                      rotate_left
                      · intro w hSw; go_simp; try with_reducible rfl
                      change wpAnyH _ _ _ _ _ _ _ (Act.put _ (some 85) _) _
                      simp only [Act.put, List.setIfInBounds_toArray, List.set_cons_zero, List.set_cons_succ]
                      refine wpAnyH_ready (rs := [9]) (by kernel_rfl) (by simp) ?_
                      refine AllReadyH.cons rfl (fun K hK => ?_) AllReadyH.nil
                      refine step_any rfl (op_store1 rfl onek5 rfl rfl rfl (bQ.ext (by (repeat (first | with_reducible exact Ext.refl _ | with_reducible assumption | refine Ext.trans ?_ (by with_reducible assumption) | refine Ext.alloc ?_ _ _ | refine Ext.drew ?_ | refine Ext.drewN ?_ _)))) (by omega) ?_)
                      rintro W7 b7 m7
                      refine hK.out _ _ (Nat.zero_le _) (fun hHeld => ?_)
                      clear hK K HH
                      have HH : Hid ((0 ≤ (_ : World).heap.size)) := hHeld
                      clear hHeld
                      change wpAnyH _ _ _ _ _ _ _ (Act.put _ none _) _
                      simp only [Act.put, List.setIfInBounds_toArray, List.set_cons_zero, List.set_cons_succ]
                      refine wpAnyH_done (by kernel_rfl) ?_ _
                      go_wp2
                      go_roundw
                      case rel =>
                        have eW : Ext wr W0 := by (repeat (first | with_reducible exact Ext.refl _ | with_reducible assumption | refine Ext.trans ?_ (by with_reducible assumption) | refine Ext.alloc ?_ _ _ | refine Ext.drew ?_ | refine Ext.drewN ?_ _))
                        refine ⟨i + 1, _, int_eq (by omega), by omega, b7, fun j hj => ?_, (bP.ext eW.drew).mod m7 hPQ, (bR.ext eW.drew).mod m7 hRQ, Ext.trans_mod (hE.trans eW.drew) m7 (fun q hq => by have hq2 : q = Qb := hq; rw [hq2]; exact gQw)⟩
                        by_cases e : j = q
                        · subst e
                          refine (updv_same _ _ _).trans ?_
                          rw [hqn, hst]
                          exact int_eq (hor _ (by decide))
                        · rw [updv_ne _ _ e, hoth j hj e]; exact fQ j hj
                      case measure => simp [intOf]; omega
                    · go_upto_region 27 with (first | ((with_reducible (refine Veil.out ?_; apply wl_loadC onek4)); (case hw => rfl); (case hx => rfl); (case hc => exact KP _ (by (repeat (first | with_reducible exact Ext.refl _ | with_reducible assumption | refine Ext.trans ?_ (by with_reducible assumption) | refine Ext.alloc ?_ _ _ | refine Ext.drew ?_ | refine Ext.drewN ?_ _))))))
                      refine w_ext ?_
                      rintro W0 hW0
                      refine wp_region_held_drew (S := fun w' => (0 ≤ (w' : World).heap.size)) (by kernel_rfl) (Nat.zero_le _) (fun hHeld => ?_)
                      have HH : Hid ((0 ≤ (_ : World).heap.size)) := hHeld
                      clear hHeld
                      refine wpAnyH_take (i := 0) (v := ?_) rfl (by kernel_rfl) (by kernel_rfl) (by kernel_rfl) (fun _ _ _ h => h) (Or.inl ⟨by rfl, ?_⟩) HH.out ?_
                      rotate_left
                      · intro w hSw; go_simp; try with_reducible rfl
                      change wpAnyH _ _ _ _ _ _ _ (Act.put _ (some 77) _) _
                      simp only [Act.put, List.setIfInBounds_toArray, List.set_cons_zero, List.set_cons_succ]
                      refine wpAnyH_take (i := 1) (v := ?_) rfl (by kernel_rfl) (by kernel_rfl) (by kernel_rfl) (fun _ _ _ h => h) (Or.inl ⟨by rfl, ?_⟩) HH.out ?_
                      rotate_left
                      · intro w hSw; go_simp; try with_reducible rfl
                      change wpAnyH _ _ _ _ _ _ _ (Act.put _ (some 78) _) _
                      simp only [Act.put, List.setIfInBounds_toArray, List.set_cons_zero, List.set_cons_succ]
                      refine wpAnyH_take (i := 2) (v := ?_) rfl (by kernel_rfl) (by kernel_rfl) (by kernel_rfl) (fun _ _ _ h => h) (Or.inl ⟨by rfl, ?_⟩) HH.out ?_
                      rotate_left
                      · intro w hSw; go_simp; try with_reducible rfl
                      change wpAnyH _ _ _ _ _ _ _ (Act.put _ (some 79) _) _
                      simp only [Act.put, List.setIfInBounds_toArray, List.set_cons_zero, List.set_cons_succ]
                      refine wpAnyH_take (i := 4) (v := ?_) rfl (by kernel_rfl) (by kernel_rfl) (by kernel_rfl) (fun _ _ _ h => h) (Or.inl ⟨by rfl, ?_⟩) HH.out ?_
                      rotate_left
                      · intro w hSw; go_simp; try with_reducible rfl
                      change wpAnyH _ _ _ _ _ _ _ (Act.put _ (some 81) _) _
                      simp only [Act.put, List.setIfInBounds_toArray, List.set_cons_zero, List.set_cons_succ]
                      refine wpAnyH_take (i := 5) (v := ?_) rfl (by kernel_rfl) (by kernel_rfl) (by kernel_rfl) (fun _ _ _ h => h) (Or.inl ⟨by rfl, ?_⟩) HH.out ?_
                      rotate_left
                      · intro w hSw; go_simp; try with_reducible rfl
                      change wpAnyH _ _ _ _ _ _ _ (Act.put _ (some 82) _) _
                      simp only [Act.put, List.setIfInBounds_toArray, List.set_cons_zero, List.set_cons_succ]
                      refine wpAnyH_take (i := 6) (v := ?_) rfl (by kernel_rfl) (by kernel_rfl) (by kernel_rfl) (fun _ _ _ h => h) (Or.inl ⟨by rfl, ?_⟩) HH.out ?_
                      rotate_left
                      · intro w hSw; go_simp; try with_reducible rfl
                      change wpAnyH _ _ _ _ _ _ _ (Act.put _ (some 83) _) _
                      simp only [Act.put, List.setIfInBounds_toArray, List.set_cons_zero, List.set_cons_succ]
                      refine wpAnyH_ready (rs := [3]) (by kernel_rfl) (by simp) ?_
                      refine AllReadyH.cons rfl (fun K hK => ?_) AllReadyH.nil
                      refine step_any rfl (op_loadK rfl onek5 rfl (KQ _ (by (repeat (first | with_reducible exact Ext.refl _ | with_reducible assumption | refine Ext.trans ?_ (by with_reducible assumption) | refine Ext.alloc ?_ _ _ | refine Ext.drew ?_ | refine Ext.drewN ?_ _)))) ?_)
                      refine hK.out _ _ HH.out (fun hHeld => ?_)
                      clear hK K HH
                      have HH : Hid ((0 ≤ (_ : World).heap.size)) := hHeld
                      clear hHeld
                      change wpAnyH _ _ _ _ _ _ _ (Act.put _ (some 80) _) _
                      simp only [Act.put, List.setIfInBounds_toArray, List.set_cons_zero, List.set_cons_succ]
                      refine wpAnyH_take (i := 7) (v := ?_) rfl (by kernel_rfl) (by kernel_rfl) (by kernel_rfl) (fun _ _ _ h => h) (Or.inl ⟨by rfl, ?_⟩) HH.out ?_
                      rotate_left
                      · intro w hSw; go_simp; try with_reducible rfl
                      change wpAnyH _ _ _ _ _ _ _ (Act.put _ (some 84) _) _
                      simp only [Act.put, List.setIfInBounds_toArray, List.set_cons_zero, List.set_cons_succ]
                      refine wpAnyH_take (i := 8) (v := ?_) rfl (by kernel_rfl) (by kernel_rfl) (by kernel_rfl) (fun _ _ _ h => h) (Or.inl ⟨by rfl, ?_⟩) HH.out ?_
                      rotate_left
                      · intro w hSw; go_simp; try with_reducible rfl
                      change wpAnyH _ _ _ _ _ _ _ (Act.put _ (some 85) _) _
                      simp only [Act.put, List.setIfInBounds_toArray, List.set_cons_zero, List.set_cons_succ]
                      refine wpAnyH_ready (rs := [9]) (by kernel_rfl) (by simp) ?_
                      refine AllReadyH.cons rfl (fun K hK => ?_) AllReadyH.nil
                      refine step_any rfl (op_store1 rfl onek5 rfl rfl rfl (bQ.ext (by (repeat (first | with_reducible exact Ext.refl _ | with_reducible assumption | refine Ext.trans ?_ (by with_reducible assumption) | refine Ext.alloc ?_ _ _ | refine Ext.drew ?_ | refine Ext.drewN ?_ _)))) (by omega) ?_)
                      rintro W7 b7 m7
                      refine hK.out _ _ (Nat.zero_le _) (fun hHeld => ?_)
                      clear hK K HH
                      have HH : Hid ((0 ≤ (_ : World).heap.size)) := hHeld
                      clear hHeld
                      change wpAnyH _ _ _ _ _ _ _ (Act.put _ none _) _
                      simp only [Act.put, List.setIfInBounds_toArray, List.set_cons_zero, List.set_cons_succ]
                      refine wpAnyH_done (by kernel_rfl) ?_ _
                      go_wp2
                      go_roundw
                      case rel =>
                        have eW : Ext wr W0 := by (repeat (first | with_reducible exact Ext.refl _ | with_reducible assumption | refine Ext.trans ?_ (by with_reducible assumption) | refine Ext.alloc ?_ _ _ | refine Ext.drew ?_ | refine Ext.drewN ?_ _))
                        refine ⟨i + 1, _, int_eq (by omega), by omega, b7, fun j hj => ?_, (bP.ext eW.drew).mod m7 hPQ, (bR.ext eW.drew).mod m7 hRQ, Ext.trans_mod (hE.trans eW.drew) m7 (fun q hq => by have hq2 : q = Qb := hq; rw [hq2]; exact gQw)⟩
                        by_cases e : j = q
                        · subst e
                          refine (updv_same _ _ _).trans ?_
                          rw [hqn, hst]
                          exact int_eq (hor _ (by decide))
                        · rw [updv_ne _ _ e, hoth j hj e]; exact fQ j hj
                      case measure => simp [intOf]; omega
                · have hii : ¬ (i : Int) < 256 := by omega
                  obtain rfl : i = 256 := by omega
                  have hcell : ∀ j, j < 32 → cQ j = .int .u8 (obyte sf j 8 : Nat) := fun j hj => by rw [fQ j hj, show min 8 (256 - 8 * j) = 8 by omega]
                  go_wp2_with (first | ((with_reducible (refine Veil.out ?_; apply wl_loadRow rt27)); (case hx => rfl); (case hB => exact bQ.ext (by (repeat (first | with_reducible exact Ext.refl _ | with_reducible assumption | refine Ext.trans ?_ (by with_reducible assumption) | refine Ext.alloc ?_ _ _ | refine Ext.drew ?_ | refine Ext.drewN ?_ _)))); (case hi => decide)) | ((with_reducible (refine Veil.out ?_; apply wl_storeRow rt27)); (case hx => rfl); (case hy => rfl); (case hr => exact rowOf_size _ _ _); (case h1 => exact ones_of (fun i hi => by rw [rowOf_size] at hi; rw [cf_rowOf _ _ _ hi, Nat.zero_add, hcell i hi]; rfl)); (case hB => exact bR.ext (by (repeat (first | with_reducible exact Ext.refl _ | with_reducible assumption | refine Ext.trans ?_ (by with_reducible assumption) | refine Ext.alloc ?_ _ _ | refine Ext.drew ?_ | refine Ext.drewN ?_ _)))); (case hi => decide); rintro W9 b9 m9))
                  have hrow : RowIn W9 R 0 (bcells ((List.range 32).map fun j => obyte sf j 8)).toArray := fun i v hv => by
                    have hi : i < 32 := by have := (Array.getElem?_eq_some_iff.1 hv).1; simpa [bcells_length] using this
                    have hv2 : Value.int .u8 (obyte sf i 8 : Nat) = v := by simpa [bcells, hi] using hv
                    have q := layv_in (fun _ => Value.int .u8 0) 0 (rowOf cQ 0 32) (j := i) (by rw [rowOf_size]; exact hi)
                    rw [Nat.zero_add, cf_rowOf _ _ _ hi, Nat.zero_add, hcell i hi, hv2] at q
                    rw [Nat.zero_add]
                    have q2 := b9.cell (i := i) hi
                    rw [q2]
                    exact congrArg some q
                  refine post_row rt27 _ (by simp [bcells_length]) rfl rfl hrow rfl ?_
                  rw [← hsf.out]
                  exact ⟨rfl, Ext.trans_mod (show Ext w _ by (repeat (first | with_reducible exact Ext.refl _ | with_reducible assumption | refine Ext.trans ?_ (by with_reducible assumption) | refine Ext.alloc ?_ _ _ | refine Ext.drew ?_ | refine Ext.drewN ?_ _))) m9 (fun q hq => by have hq2 : q = R := hq; rw [hq2]; exact gR)⟩
        · have hb : ((r : Int) == 1087) = false := by simp; omega
          have hmM : m + 1 < M := by omega
          clear hr2
          go_wp2_with (first | ((with_reducible (refine Veil.out ?_; apply wl_build1c 4 Hvah.t4 (.bool false))); (case ht => exact under216); (case hi => exact info4); (case hz => exact zero4); (case hsz => exact size4); (case hzs => rfl); (case hy => rfl); (case h1 => rfl); rintro B8 W8 e8 k8 g8) | ((with_reducible (refine Veil.out ?_; apply wl_appendIn (v := .bool false))); (case ht => exact under216); (case hi => exact info4); (case hsz => exact size4); (case hs => rfl); (case hx => rfl); (case hB => exact bS.ext (by (repeat (first | with_reducible exact Ext.refl _ | with_reducible assumption | refine Ext.trans ?_ (by with_reducible assumption) | refine Ext.alloc ?_ _ _ | refine Ext.drew ?_ | refine Ext.drewN ?_ _)))); (case hn => omega); (case hc => exact k8); (case h1 => rfl); rintro V9 b9 m9))
          go_roundw
          case rel =>
            refine ⟨m + 1, _, rfl, by omega, by omega, b9, ?_, (bR.ext e8).mod m9 hRS, Ext.trans_mod (hE.trans e8) m9 (fun q hq => by have hq2 : q = S := hq; rw [hq2]; exact gSw)⟩
            exact FB.snoc fS (by rw [hpb, if_neg (by omega)]; simp; omega)
          case measure => simp [slLen]; omega
theorem kSum : KSum := fun O' w v l hv hl => by
  have h := kSum0 hv hl
  rw [sum_kecL l hv.digits] at h
  unfold bw
  rw [kec_bytes]
  exact h
end Go.Proofs.YgvahwGreat
