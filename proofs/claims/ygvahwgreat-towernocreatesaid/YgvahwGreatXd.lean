import Derived.Test.YgvahwGreatXc
namespace Go.Proofs.YgvahwGreat
open Go.RowKit
set_option linter.unusedSimpArgs false
set_option linter.unusedVariables false
/-- An account of the stage. -/
structure AcO (n0 : Nat) (w : World) (c : Nat → Value) (o : Nat) (x : IAcct) : Prop where
  addr : AAt c o x.addr
  aLt : x.addr < 2 ^ 160
  nonce : c (o + 20) = .int .u64 (x.nonce : Nat)
  nLt : x.nonce < 18446744073709551616
  bal : BAt c (o + 21) x.bal
  bLt : x.bal < P256
  code : OwB n0 w (c (o + 53)) x.code
  slots : c (o + 54) = .slice none 0 0
  bare : x.slots = []
theorem AcO.iacc {n0 : Nat} {w : World} {c : Nat → Value} {o : Nat} {x : IAcct} (h : AcO n0 w c o x) : IAcC (fun _ => False) w c o x :=
  ⟨h.addr, h.aLt, h.nonce, h.nLt, h.bal, h.bLt, h.code.nlx, by rw [h.slots, h.bare]; exact Or.inl ⟨rfl, _, rfl⟩⟩
theorem AcO.move {n0 : Nat} {w : World} {c c' : Nat → Value} {o o' : Nat} {x : IAcct} (h : AcO n0 w c o x) (hc : ∀ j, j < 55 → c' (o' + j) = c (o + j)) : AcO n0 w c' o' x where
  addr := fun i v hv => by
    have hi := (Array.getElem?_eq_some_iff.1 hv).1
    rw [av_size h.aLt] at hi
    rw [hc i (by omega)]; exact h.addr i v hv
  aLt := h.aLt
  nonce := by rw [hc 20 (by decide)]; exact h.nonce
  nLt := h.nLt
  bal := fun i v hv => by
    have hi := (Array.getElem?_eq_some_iff.1 hv).1
    rw [bw_sizeP h.bLt] at hi
    rw [Nat.add_assoc, hc (21 + i) (by omega), ← Nat.add_assoc]; exact h.bal i v hv
  bLt := h.bLt
  code := by rw [hc 53 (by decide)]; exact h.code
  slots := by rw [hc 54 (by decide)]; exact h.slots
  bare := h.bare
theorem AcO.ext {n0 : Nat} {w w' : World} {c : Nat → Value} {o : Nat} {x : IAcct} (h : AcO n0 w c o x) (e : Ext w w') : AcO n0 w' c o x := { h with code := h.code.ext e }
theorem AcO.modB {n0 : Nat} {w w' : World} {c : Nat → Value} {o : Nat} {x : IAcct} {b n : Nat} {t : TypeId} {c' : Nat → Value} (h : AcO n0 w c o x) (hb : Blk w b n t c') (ht : t ≠ 5) (m : Mod (· = b) w w') : AcO n0 w' c o x := { h with code := h.code.mod hb ht m }
theorem AcO.ones {n0 : Nat} {w : World} {c : Nat → Value} {x : IAcct} (h : AcO n0 w c 0 x) : Ones (rowOf c 0 55) := ones_of (fun q hq => by
  rw [rowOf_size] at hq
  rw [cf_rowOf _ _ _ hq, Nat.zero_add]
  rcases (show q < 20 ∨ q = 20 ∨ (21 ≤ q ∧ q < 53) ∨ q = 53 ∨ q = 54 by omega) with k | rfl | k | rfl | rfl
  · have := get_cf (r := av x.addr) (i := q) (by rw [av_size h.aLt]; exact k)
    have h2 := h.addr q _ this
    rw [Nat.zero_add] at h2
    rw [h2]
    exact Ones.get (av_one _) (by rw [av_size h.aLt]; exact k)
  · have := h.nonce; rw [Nat.zero_add] at this; rw [this]; rfl
  · have h1 := get_cf (r := bw x.bal) (i := q - 21) (by rw [bw_sizeP h.bLt]; omega)
    have h2 := h.bal (q - 21) _ h1
    rw [show 0 + 21 + (q - 21) = q by omega] at h2
    rw [h2]
    exact Ones.get (bw_onesP _) (by rw [bw_sizeP h.bLt]; omega)
  · have := h.code.one; rw [Nat.zero_add] at this; exact this
  · have := h.slots; rw [Nat.zero_add] at this; rw [this]; rfl)
theorem sl27x : SlT 27 58 55 := ⟨⟨Hvah.t58, .agg #[.int .u8 0, .int .u8 0, .int .u8 0, .int .u8 0, .int .u8 0, .int .u8 0, .int .u8 0, .int .u8 0, .int .u8 0, .int .u8 0, .int .u8 0, .int .u8 0, .int .u8 0, .int .u8 0, .int .u8 0, .int .u8 0, .int .u8 0, .int .u8 0, .int .u8 0, .int .u8 0, .int .u64 0, .int .u8 0, .int .u8 0, .int .u8 0, .int .u8 0, .int .u8 0, .int .u8 0, .int .u8 0, .int .u8 0, .int .u8 0, .int .u8 0, .int .u8 0, .int .u8 0, .int .u8 0, .int .u8 0, .int .u8 0, .int .u8 0, .int .u8 0, .int .u8 0, .int .u8 0, .int .u8 0, .int .u8 0, .int .u8 0, .int .u8 0, .int .u8 0, .int .u8 0, .int .u8 0, .int .u8 0, .int .u8 0, .int .u8 0, .int .u8 0, .int .u8 0, .int .u8 0, .slice none 0 0, .slice none 0 0], by kernel_rfl, by kernel_rfl, by kernel_rfl, by kernel_rfl, rfl, by decide +kernel⟩, by decide, by decide⟩
theorem rt58x : RowT 58 55 := rowT_of (by kernel_rfl) (by kernel_rfl)
def rAcc0 : Array Value := #[.int .u8 0, .int .u8 0, .int .u8 0, .int .u8 0, .int .u8 0, .int .u8 0, .int .u8 0, .int .u8 0, .int .u8 0, .int .u8 0, .int .u8 0, .int .u8 0, .int .u8 0, .int .u8 0, .int .u8 0, .int .u8 0, .int .u8 0, .int .u8 0, .int .u8 0, .int .u8 0, .int .u64 0, .int .u8 0, .int .u8 0, .int .u8 0, .int .u8 0, .int .u8 0, .int .u8 0, .int .u8 0, .int .u8 0, .int .u8 0, .int .u8 0, .int .u8 0, .int .u8 0, .int .u8 0, .int .u8 0, .int .u8 0, .int .u8 0, .int .u8 0, .int .u8 0, .int .u8 0, .int .u8 0, .int .u8 0, .int .u8 0, .int .u8 0, .int .u8 0, .int .u8 0, .int .u8 0, .int .u8 0, .int .u8 0, .int .u8 0, .int .u8 0, .int .u8 0, .int .u8 0, .slice none 0 0, .slice none 0 0]
theorem zAcc0 : zeroOf Hvah.prog 58 = some rAcc0 := by kernel_rfl
theorem rAcc0s : rAcc0.size = 55 := by kernel_rfl
/-- An account of the stage as it is built. -/
theorem b58x (k : Nat) (h1 : 1 ≤ k) (h6 : k ≤ 6) : ∃ r, (∀ w, (Instr.build 58 ([(0, .agg (av k)), (1, .int .u64 1)] : List (Nat × Value)).toArray).run Hvah.prog w = .ok (.agg r) w) ∧ r.size = 55 ∧ Ones r ∧ ∀ n0 w, AcO n0 w (cf r) 0 ⟨k, 1, 0, [], []⟩ := by
  refine ⟨bltOf Hvah.prog 58 ([(0, .agg (av k)), (1, .int .u64 1)] : List (Nat × Value)), ?_⟩
  have : k = 1 ∨ k = 2 ∨ k = 3 ∨ k = 4 ∨ k = 5 ∨ k = 6 := by omega
  rcases this with rfl | rfl | rfl | rfl | rfl | rfl <;> exact ⟨fun w => by kernel_rfl, by kernel_rfl, ones_lit (by kernel_rfl), fun n0 w => ⟨aat_lit (by kernel_rfl), by decide, by kernel_rfl, by decide, bat_lit (by kernel_rfl), by decide, Or.inl ⟨rfl, by kernel_rfl⟩, by kernel_rfl, rfl⟩⟩
theorem b33x : ∀ w, (Instr.build 33 ([(15, .int .u8 1)] : List (Nat × Value)).toArray).run Hvah.prog w = .ok (.agg (bw 340282366920938463463374607431768211456)) w := fun w => by kernel_rfl
/-- The sender's account. -/
theorem bSend : ∃ r, (∀ w, (Instr.build 58 ([(0, .agg (av 240)), (2, .agg (bw 340282366920938463463374607431768211456))] : List (Nat × Value)).toArray).run Hvah.prog w = .ok (.agg r) w) ∧ r.size = 55 ∧ Ones r ∧ ∀ n0 w, AcO n0 w (cf r) 0 ⟨240, 0, 340282366920938463463374607431768211456, [], []⟩ :=
  ⟨bltOf Hvah.prog 58 ([(0, .agg (av 240)), (2, .agg (bw 340282366920938463463374607431768211456))] : List (Nat × Value)), fun w => by kernel_rfl, by kernel_rfl, ones_lit (by kernel_rfl), fun n0 w => ⟨aat_lit (by kernel_rfl), by decide, by kernel_rfl, by decide, bat_lit (by kernel_rfl), by decide, Or.inl ⟨rfl, by kernel_rfl⟩, by kernel_rfl, rfl⟩⟩
section
variable {w : World} {v : Value} {ls : List (List Nat)}
set_option maxRecDepth 100000 in
set_option maxHeartbeats 6400000 in
/-- law.Stage -/
theorem lStage (h : CoL w v ls) : Calls Hvah.prog 5 #[v] w fun e w' => ∃ r l, e = .returned r ∧ EL 55 (IAcC (fun _ => False) w') (fun _ => False) w' r l ∧ Ext w w' := by
  obtain ⟨o, cap, rfl, hcell⟩ := h.at
  clear h
  have HC := fun (W : World) (hW : Ext w W) {x : Value} {l : List Nat} (hx : NLx (fun _ => False) w x l) (hl : l.length ≤ 140737488355328) => lCopyBytes (hx.ext hW) hl
  have HS := fun W => lSender W
  have hbw := b33x
  obtain ⟨rs, hbs, hrs, hos, hAs⟩ := bSend
  obtain ⟨u240, hu240⟩ : ∃ z, Hid (av 240 = av z) := ⟨240, rfl⟩
  obtain ⟨ubw, hubw⟩ : ∃ z, Hid (bw 340282366920938463463374607431768211456 = bw z) := ⟨_, rfl⟩
  rw [hu240.out] at HS hbs
  rw [hubw.out] at hbw hbs
  clear hu240 hubw
  obtain ⟨n, hn⟩ : ∃ n, Hid (ls.length = n) := ⟨_, rfl⟩
  rw [hn.out]
  go_enter Hvah.func5, Hvah.ntmps5
  go_upto_region 3 with (fail)
  try simp only [Act.put]
  go_loopw [9, 3] (fun iv ov wr => ∃ (i : Nat) (la : List IAcct), iv = .int .i64 (i : Nat) ∧ i ≤ n ∧ i ≤ 6 ∧ la.length = i ∧ GRow 58 55 (fun c o x => AcO w.heap.size wr c o x) (fun b => w.heap.size ≤ b) wr ov la ∧ Ext w wr) (fun iv _ _ => n - (intOf iv).toNat)
  case atStart => exact ⟨0, [], rfl, Nat.zero_le _, by decide, rfl, Or.inl ⟨rfl, rfl⟩, Ext.refl _⟩
  case round =>
    obtain ⟨i, la, rfl, hin, hi6, hli, hG, hE⟩ := hrel
    rcases Nat.lt_or_ge i n with hlt | hge
    · have z1 : (i : Int) < n := by omega
      have hil : i < ls.length := by rw [hn.out]; exact hlt
      obtain ⟨b, off, x, rfl, hb, hx, hxN⟩ := hcell i hil
      obtain ⟨lx, hlx⟩ : ∃ lx, Hid (ls[i]'hil = lx) := ⟨ls[i]'hil, rfl⟩
      rw [hlx.out] at hxN
      have hcX : wr.cell? ⟨b, off + i, none⟩ = some x := (hE.cell hb).trans hx
      have hxn := hxN.1
      have hxl := hxN.2
      obtain ⟨ox, cx, hxs⟩ : ∃ ox cx, x = .slice ox lx.length cx := by obtain ⟨ox, cx, q, _⟩ := hxN.1; exact ⟨ox, cx, q⟩
      subst hxs
      obtain ⟨m, hm⟩ : ∃ m, Hid (lx.length = m) := ⟨_, rfl⟩
      rw [hm.out] at hcX hxn
      clear hcell hxN hx
      rcases Nat.lt_or_ge i 6 with h6 | h6
      · have z6 : ¬ (6 : Int) ≤ (i : Int) := by omega
        have z7 : decide ((6 : Int) ≤ (i : Int)) = false := decide_eq_false z6
        have j1 : IntKind.i64.wrap ((i : Int) + 1) = ((i + 1 : Nat) : Int) := by rw [IntKind.wrap_i64]; omega
        have j3 : IntKind.u8.wrap ((i + 1 : Nat) : Int) = ((i + 1 : Nat) : Int) := by rw [IntKind.wrap_u8]; omega
        obtain ⟨i1, hi1⟩ : ∃ z : Nat, Hid ((i + 1 : Nat) = z) := ⟨_, rfl⟩
        rw [hi1.out] at j1 j3
        have hi1a : 1 ≤ i1 := by have := hi1.out; omega
        have hi1b : i1 ≤ 6 := by have := hi1.out; omega
        obtain ⟨r1, hb1, hr1, ho1, hA1⟩ := b58x i1 hi1a hi1b
        have HN := fun W => lAddrNo i1 (by omega) W
        obtain ⟨ui, hui⟩ : ∃ z, Hid (av i1 = z) := ⟨_, rfl⟩
        rw [hui.out] at HN hb1
        go_upto_region 7 with (first | ((with_reducible (refine Veil.out ?_; apply wl_loadC one23x)); (case hw => first | rfl | go_simp); (case hx => rfl); (case hc => exact hcX)) | (go_at_call 16; refine (HN _).mono ?_; rintro e W1 ⟨rfl, e1⟩) | ((with_reducible (refine Veil.out ?_; apply wl_buildV hb1)); (case he => first | rfl | simp [Act.eval])) | ((with_reducible (refine Veil.out ?_; apply wl_allocB zAcc0)); (case hn => exact rAcc0s); rintro B2 W2 e2 b2 g2) | ((with_reducible (refine Veil.out ?_; apply wl_storeRow rt58x)); (case hx => rfl); (case hy => rfl); (case hr => exact hr1); (case h1 => exact ho1); (case hB => exact b2); (case hi => decide); rintro W3 b3 m3))
        have g2w : w.heap.size ≤ B2 := Nat.le_trans hE.size (Nat.le_trans e1.size g2)
        have g2r : wr.heap.size ≤ B2 := Nat.le_trans e1.size g2
        have hE3 : Ext wr W3 := Ext.trans_mod (e1.trans e2) m3 (fun q hq => by have hq2 : q = B2 := hq; rw [hq2]; exact g2r)
        obtain ⟨cA, hcA⟩ : ∃ z, Hid (layv (cf rAcc0) 0 r1 = z) := ⟨_, rfl⟩
        rw [hcA.out] at b3
        have hAA : AcO w.heap.size W3 cA 0 ⟨i1, 1, 0, [], []⟩ := (hA1 _ _).move (fun j hj => by
          rw [← hcA.out, layv_in (cf rAcc0) 0 r1 (by omega), Nat.zero_add])
        clear b2 m3 e2 g2 hb1 hA1 ho1 e1 HN
        go_upto_if 23 with (fail)
        go_cut [] (fun wx => ∃ cA x, Blk wx B2 55 58 cA ∧ AcO w.heap.size wx cA 0 x ∧ Ext wr wx)
        case first =>
          rcases Nat.lt_or_ge 256 m with hbig | hsm
          · have y1 : ¬ (m : Int) ≤ 256 := by omega
            have y2 : decide ((m : Int) ≤ 256) = false := decide_eq_false y1
            go_wp2
            go_meet
            case rel => exact ⟨cA, _, b3, hAA, hE3⟩
          · have y1 : (m : Int) ≤ 256 := by omega
            have y2 : decide ((m : Int) ≤ 256) = true := decide_eq_true y1
            go_wp2_with (first | (go_at_call 17; refine (HC _ (hE.trans hE3) hxn hxl).mono ?_; rintro e W4 ⟨cp, rfl, hcp, e4⟩; have bX4 := b3.ext e4) | ((with_reducible (refine Veil.out ?_; apply wl_store1 one23x)); (case hx => rfl); (case hy => rfl); (case h1 => exact hcp.one); (case hB => exact bX4); (case ho => decide); rintro W5 b5 m5; have hE5 : Ext wr W5 := Ext.trans_mod (hE3.trans e4) m5 (fun q hq => by have hq2 : q = B2 := hq; rw [hq2]; exact g2r)))
            go_meet
            case rel =>
              refine ⟨_, ⟨i1, 1, 0, lx, []⟩, b5, ?_, hE5⟩
              refine ⟨hAA.addr.upd hAA.aLt (by decide), hAA.aLt, (updv_ne _ _ (by decide)).trans hAA.nonce, hAA.nLt, hAA.bal.same hAA.bLt (fun j hj => updv_ne _ _ (by omega)), hAA.bLt, ?_, (updv_ne _ _ (by decide)).trans hAA.slots, rfl⟩
              rw [updv_same]
              exact (hcp.less (Nat.le_trans hE.size hE3.size)).mod bX4 (by decide) m5
        case rest =>
          obtain ⟨cA2, xa, bA2, hA2, hEx⟩ := hcut
          have hEw := hE.trans hEx
          have hG2 := hG.ext (R' := fun c o x => AcO w.heap.size wc c o x) hEx (fun _ _ _ q => q.ext hEx)
          have honA := hA2.ones
          clear hG hcX hxn hAA b3 HC HS hbw hbs
          obtain ⟨ra, hra⟩ : ∃ z, Hid (rowOf cA2 0 55 = z) := ⟨_, rfl⟩
          have hras : ra.size = 55 := by rw [← hra.out]; exact rowOf_size _ _ _
          rw [hra.out] at honA
          go_wp2_with (first | ((with_reducible (refine Veil.out ?_; apply wl_loadRow rt58x)); (case hx => rfl); (case hB => exact bA2); (case hi => decide); rw [hra.out]) | ((with_reducible (refine Veil.out ?_; apply wl_build1X sl27x)); (case hy => rfl); (case hr => exact hras); rintro B6 W6 e6 hc6 g6; have hG6 := hG2.ext (R' := fun c o x => AcO w.heap.size W6 c o x) e6 (fun _ _ _ q => q.ext e6); have hE6 := hEw.trans e6; have hA6 := hA2.ext e6) | ((with_reducible (refine Veil.out ?_; apply wl_appX (R := fun W c o x => AcO w.heap.size W c o x) (r := ra) (w0 := w) (y := xa) (l := la) sl27x)); (case hG => exact hG6); (case e0 => exact hE6); (case hn => omega); (case hs => rfl); (case hx => rfl); (case hr => exact hras); (case hone => exact honA); (case hc => exact hc6); (case hy => intro c o hc; exact hA6.move (fun j hj => by rw [hc j _ (get_cf (by omega)), ← hra.out, cf_rowOf _ _ _ hj])); (case hRm => intro W c c' o y hc hq; exact hq.move hc); (case hRe => intro W hW c o y hq; exact hq.ext hW); (case hRb => intro W b n c' hb hm c o y hq; exact hq.modB hb (by decide) hm); rintro v7 W7 hG7 hE7))
          go_roundw
          case rel =>
            have h9 := hi1.out
            exact ⟨i1, la ++ [xa], rfl, by omega, by omega, by simp; omega, hG7, hE7⟩
          case measure => have h9 := hi1.out; simp [intOf]; omega
      · have z6 : (6 : Int) ≤ (i : Int) := by omega
        have z7 : decide ((6 : Int) ≤ (i : Int)) = true := decide_eq_true z6
        go_wp2_with (first | ((with_reducible (refine Veil.out ?_; apply wl_loadC one23x)); (case hw => first | rfl | go_simp); (case hx => rfl); (case hc => exact hcX)) | (go_at_call 18; refine (HS _).mono ?_; rintro e W4 ⟨rfl, e4⟩; have hE4 := hE.trans e4; have hG4 := hG.ext (R' := fun c o x => AcO w.heap.size W4 c o x) e4 (fun _ _ _ q => q.ext e4)) | ((with_reducible (refine Veil.out ?_; apply wl_buildV hbw)); (case he => first | rfl | simp [Act.eval])) | ((with_reducible (refine Veil.out ?_; apply wl_buildV (t := 58) hbs)); (case he => simp only [Act.put, List.setIfInBounds_toArray, List.set_cons_zero, List.set_cons_succ]; go_simp)) | ((with_reducible (refine Veil.out ?_; apply wl_build1X sl27x)); (case hy => rfl); (case hr => exact hrs); rintro B6 W6 e6 hc6 g6; have hG6 := hG4.ext (R' := fun c o x => AcO w.heap.size W6 c o x) e6 (fun _ _ _ q => q.ext e6); have hE6 := hE4.trans e6) | ((with_reducible (refine Veil.out ?_; apply wl_appX (R := fun W c o x => AcO w.heap.size W c o x) (r := rs) (w0 := w) (y := ⟨240, 0, 340282366920938463463374607431768211456, [], []⟩) (l := la) sl27x)); (case hG => exact hG6); (case e0 => exact hE6); (case hn => omega); (case hs => rfl); (case hx => rfl); (case hr => exact hrs); (case hone => exact hos); (case hc => exact hc6); (case hy => intro c o hc; exact (hAs _ _).move (fun j hj => by rw [hc j _ (get_cf (by omega)), Nat.zero_add])); (case hRm => intro W c c' o y hc hq; exact hq.move hc); (case hRe => intro W hW c o y hq; exact hq.ext hW); (case hRb => intro W b n c' hb hm c o y hq; exact hq.modB hb (by decide) hm); rintro v7 W7 hG7 hE7))
        go_ret
        first | exact ⟨_, _, rfl, EL.mono hG7.el (Ext.refl _) (fun _ _ _ q => q.iacc), hE7⟩ | exact ⟨_, ⟨rfl, _, EL.mono hG7.el (Ext.refl _) (fun _ _ _ q => q.iacc)⟩, hE7⟩ | exact ⟨_, rfl, ⟨_, EL.mono hG7.el (Ext.refl _) (fun _ _ _ q => q.iacc)⟩, hE7⟩
    · have z1 : ¬ (i : Int) < n := by omega
      go_wp2_with (first | (go_at_call 18; refine (HS _).mono ?_; rintro e W4 ⟨rfl, e4⟩; have hE4 := hE.trans e4; have hG4 := hG.ext (R' := fun c o x => AcO w.heap.size W4 c o x) e4 (fun _ _ _ q => q.ext e4)) | ((with_reducible (refine Veil.out ?_; apply wl_buildV hbw)); (case he => first | rfl | simp [Act.eval])) | ((with_reducible (refine Veil.out ?_; apply wl_buildV (t := 58) hbs)); (case he => simp only [Act.put, List.setIfInBounds_toArray, List.set_cons_zero, List.set_cons_succ]; go_simp)) | ((with_reducible (refine Veil.out ?_; apply wl_build1X sl27x)); (case hy => rfl); (case hr => exact hrs); rintro B6 W6 e6 hc6 g6; have hG6 := hG4.ext (R' := fun c o x => AcO w.heap.size W6 c o x) e6 (fun _ _ _ q => q.ext e6); have hE6 := hE4.trans e6) | ((with_reducible (refine Veil.out ?_; apply wl_appX (R := fun W c o x => AcO w.heap.size W c o x) (r := rs) (w0 := w) (y := ⟨240, 0, 340282366920938463463374607431768211456, [], []⟩) (l := la) sl27x)); (case hG => exact hG6); (case e0 => exact hE6); (case hn => omega); (case hs => rfl); (case hx => rfl); (case hr => exact hrs); (case hone => exact hos); (case hc => exact hc6); (case hy => intro c o hc; exact (hAs _ _).move (fun j hj => by rw [hc j _ (get_cf (by omega)), Nat.zero_add])); (case hRm => intro W c c' o y hc hq; exact hq.move hc); (case hRe => intro W hW c o y hq; exact hq.ext hW); (case hRb => intro W b n c' hb hm c o y hq; exact hq.modB hb (by decide) hm); rintro v7 W7 hG7 hE7))
      go_ret
      first | exact ⟨_, _, rfl, EL.mono hG7.el (Ext.refl _) (fun _ _ _ q => q.iacc), hE7⟩ | exact ⟨_, ⟨rfl, _, EL.mono hG7.el (Ext.refl _) (fun _ _ _ q => q.iacc)⟩, hE7⟩ | exact ⟨_, rfl, ⟨_, EL.mono hG7.el (Ext.refl _) (fun _ _ _ q => q.iacc)⟩, hE7⟩
end
end Go.Proofs.YgvahwGreat
