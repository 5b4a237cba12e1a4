import Derived.Test.YgvahwGreatYb0
import Derived.Test.YgvahwGreatYl0
import Derived.Test.YgvahwGreatBg1
import Derived.Test.YgvahwGreatSv
import Derived.Test.YgvahwGreatIv
import Derived.Test.YgvahwGreatTk
import Derived.Test.YgvahwGreatRx
import Derived.Test.YgvahwGreatTop
import Derived.Test.YgvahwGreatIa
namespace Go.Proofs.YgvahwGreat
open Go.RowKit
set_option linter.unusedVariables false
/-- The body of Begin. -/
def bbody (f : Func) : Code := match f.body with
  | some c => c
  | none => .region 0 #[] false
/-- What follows it. -/
def BQ (R : Ending → World → Prop) : Exit → Act → World → Prop := bodyPost Hvah.prog Hvah.f29 R
section
variable {O TL : Nat → Prop} {w w' : World} {Y F n : Nat} {c d : Nat → Value} {W : YW} {start : List (Nat × Nat × Nat)} {st : ASt} {tot : Nat} {L : List YFrm}
theorem zSetBal8 (h : YZ O TL w Y F n c d W start st tot L) (a : Nat) (ha : a < 2 ^ 160) (kv : Value) (x : Nat) (hkv : NV O w kv x) (hl : YLim (W.setBal a x)) : Calls Hvah.prog 59 #[.pointer (some ⟨Y, 0, none⟩), .agg (av a), kv] w fun e w' => ∃ c', e = .returned (.tuple #[]) ∧ YZ O TL w' Y F n c' d (W.setBal a x) start { st with now := st.now.setBal a x } tot L ∧ Mod (· = Y) w w' ∧ ∀ i, 8 ≤ i → c' i = c i := by
  refine (ySetBalance h.bY (by decide) h.small h.oY W.accts h.wc.accts a ha kv x hkv (Nat.le_trans h.lim.accts (by decide))).mono ?_
  rintro e w1 ⟨v', rfl, hB, hL, m⟩
  have k := h.wc.keep m h.hsY
  exact ⟨_, rfl, h.updY (W' := W.setBal a x) (j := 0) (by decide) (by decide) m hB ⟨by rw [updv_same]; exact hL, by rw [show 0 + 1 = 1 from rfl]; rw [updv_ne _ _ (by decide)]; exact k.warmA, by rw [show 0 + 2 = 2 from rfl]; rw [updv_ne _ _ (by decide)]; exact k.warmS, by rw [show 0 + 3 = 3 from rfl]; rw [updv_ne _ _ (by decide)]; exact k.refund, by rw [show 0 + 5 = 5 from rfl]; rw [updv_ne _ _ (by decide)]; exact k.temps, by rw [show 0 + 6 = 6 from rfl]; rw [updv_ne _ _ (by decide)]; exact k.made, by rw [show 0 + 7 = 7 from rfl]; rw [updv_ne _ _ (by decide)]; exact k.gone⟩ rfl hl (YW.setBal_wf h.wf a x ha) (by rw [YW.setBal_abs, h.now]), m, fun i hi => updv_ne _ _ (by omega)⟩
/-- The slots at the start are laid. -/
theorem YZ.putStart (h : YZ O TL w Y F n c d W start st tot L) {v : Value} {start' : List (Nat × Nat × Nat)} (m : Mod (· = Y) w w') (hB : Blk w' Y 179 118 (updv c 8 v)) (hv : TmpL 149 O w' v start') (hsl : start'.length ≤ 90000) : YZ O TL w' Y F n (updv c 8 v) d W start' { st with orig := lookT start' } tot L := by
  have hs := h.hsY
  have hc : ∀ i, i ≠ 8 → updv c 8 v i = c i := fun i hi => updv_ne _ _ hi
  exact { bY := hB
          wc := (h.wc.keep m hs).cells (fun j hj => by rw [Nat.zero_add, hc _ (by omega)])
          lim := h.lim
          wf := h.wf
          st8 := by rw [updv_same]; exact hv
          sl := hsl
          fv := by rw [hc _ (by decide)]; exact h.fv.mod m (fun q => h.ne q.symm)
          few := h.few
          small := fun b hb => Nat.lt_of_lt_of_le (h.small b hb) m.size
          ret := by rw [hc _ (by decide)]; exact h.ret.keep m hs
          phase := by rw [hc _ (by decide)]; exact h.phase
          hLt := h.hLt
          status := by rw [hc _ (by decide)]; exact h.status
          applied := by rw [hc _ (by decide)]; exact h.applied
          limit := by rw [hc _ (by decide)]; exact h.limit.keep m hs
          left := fun q => by rw [hc _ (by decide)]; exact (h.left q).keep m hs
          price := by rw [hc _ (by decide)]; exact h.price.keep m hs
          pLt := h.pLt
          total := by rw [hc _ (by decide)]; exact h.total.keep m hs
          tg := by rw [hc _ (by decide)]; exact h.tg.keep m hs
          origin := h.origin.same h.oLt (fun j hj => hc _ (by omega))
          oLt := h.oLt
          made := h.made.same h.mLt (fun j hj => hc _ (by omega))
          mLt := h.mLt
          env := h.env.same (fun j hj _ => hc j (by omega)) (fun _ _ q => q.keep m hs)
          now := h.now
          orig := rfl
          oY := h.oY
          oF := h.oF
          ne := h.ne
          frs := h.frs
          fl := YFL.keep m hs h.fl (fun x hx b hb q => (h.tm x hx b hb).2.1 q)
          tm := h.tm
          td := h.td
          tl := h.tl
          lg := by
            rw [hc 4 (by decide)]
            exact h.lg.imp (fun k => LogL.keep k m hs (fun b hb => (h.tl b hb).2.1)) (fun k => ⟨LogL.keep k.1 m hs (fun b hb => hs b hb), k.2⟩) }
/-- A transaction that ends at once. -/
theorem YZ.putEnd (h : YZ O TL w Y F n c d W start st tot L) {s g : Nat} {v : Value} (m : Mod (· = Y) w w') (hB : Blk w' Y 179 118 (updv (updv (updv c 11 (.int .u8 (2 : Nat))) 12 (.int .u8 (s : Nat))) 16 v)) (hv : NV O w v g) : YZ O TL w' Y F n (updv (updv (updv c 11 (.int .u8 (2 : Nat))) 12 (.int .u8 (s : Nat))) 16 v) d W start { st with phase := 2, status := s, left := g } tot L := by
  have hs := h.hsY
  have hc : ∀ i, i ≠ 11 → i ≠ 12 → i ≠ 16 → updv (updv (updv c 11 (.int .u8 (2 : Nat))) 12 (.int .u8 (s : Nat))) 16 v i = c i := fun i h1 h2 h3 => by rw [updv_ne _ _ h3, updv_ne _ _ h2, updv_ne _ _ h1]
  exact { bY := hB
          wc := (h.wc.keep m hs).cells (fun j hj => by rw [Nat.zero_add, hc _ (by omega) (by omega) (by omega)])
          lim := h.lim
          wf := h.wf
          st8 := by rw [hc _ (by decide) (by decide) (by decide)]; exact TmpL.keep h.st8 m hs
          sl := h.sl
          fv := by rw [hc _ (by decide) (by decide) (by decide)]; exact h.fv.mod m (fun q => h.ne q.symm)
          few := h.few
          small := fun b hb => Nat.lt_of_lt_of_le (h.small b hb) m.size
          ret := by rw [hc _ (by decide) (by decide) (by decide)]; exact h.ret.keep m hs
          phase := by rw [updv_ne _ _ (by decide), updv_ne _ _ (by decide), updv_same]
          hLt := Nat.le_refl _
          status := by rw [updv_ne _ _ (by decide), updv_same]
          applied := by rw [hc _ (by decide) (by decide) (by decide)]; exact h.applied
          limit := by rw [hc _ (by decide) (by decide) (by decide)]; exact h.limit.keep m hs
          left := fun q => by rw [updv_same]; exact hv.keep m hs
          price := by rw [hc _ (by decide) (by decide) (by decide)]; exact h.price.keep m hs
          pLt := h.pLt
          total := by rw [hc _ (by decide) (by decide) (by decide)]; exact h.total.keep m hs
          tg := by rw [hc _ (by decide) (by decide) (by decide)]; exact h.tg.keep m hs
          origin := h.origin.same h.oLt (fun j hj => hc _ (by omega) (by omega) (by omega))
          oLt := h.oLt
          made := h.made.same h.mLt (fun j hj => hc _ (by omega) (by omega) (by omega))
          mLt := h.mLt
          env := h.env.same (fun j hj _ => hc j (by omega) (by omega) (by omega)) (fun _ _ q => q.keep m hs)
          now := h.now
          orig := h.orig
          oY := h.oY
          oF := h.oF
          ne := h.ne
          frs := h.frs
          fl := YFL.keep m hs h.fl (fun x hx b hb q => (h.tm x hx b hb).2.1 q)
          tm := h.tm
          td := h.td
          tl := h.tl
          lg := by
            rw [hc 4 (by decide) (by decide) (by decide)]
            exact h.lg.imp (fun k => LogL.keep k m hs (fun b hb => (h.tl b hb).2.1)) (fun k => ⟨LogL.keep k.1 m hs (fun b hb => hs b hb), k.2⟩) }
/-- The opening. -/
structure BCells (O : Nat → Prop) (w : World) (c c' : Nat → Value) (ap lim g pr og md : Nat) : Prop where
  low : ∀ i, i < 8 → c' i = c i
  s8 : c' 8 = .slice none 0 0
  s9 : c' 9 = .slice none 0 0
  s10 : c' 10 = c 10
  s11 : c' 11 = c 11
  s12 : c' 12 = c 12
  s13 : c' 13 = .int .u8 (ap : Nat)
  s14 : NV O w (c' 14) lim
  s15 : NV O w (c' 15) g
  s17 : NV O w (c' 17) pr
  s18 : c' 18 = c 18
  s19 : AAt c' 19 og
  s39 : AAt c' 39 md
  high : ∀ i, 59 ≤ i → c' i = c i
theorem YZ.ofI {c' : Nat → Value} {ap lim g pr og md : Nat} (h : YI O w Y c W st tot) (m : Mod (· = Y) w w') (hB : Blk w' Y 179 118 c') (k : BCells O w' c c' ap lim g pr og md) (h10 : c 10 = .slice none 0 0) (hpr : pr < P256) (hog : og < 2 ^ 160) (hmd : md < 2 ^ 160) (hF : O F) (hne : Y ≠ F) : YZ O (fun _ => False) w' Y F n c' d W [] { st with orig := lookT [], frames := [], ret := [], applied := ap, limit := lim, txGas := g, price := pr, origin := og, made := md } tot [] := by
  have hs : ∀ b, ¬ O b → ¬ b = Y := fun b hb q => hb (q ▸ h.oY)
  exact { bY := hB
          wc := (h.wc.keep m hs).cells (fun j hj => by rw [Nat.zero_add]; exact k.low j hj)
          lim := h.lim
          wf := h.wf
          st8 := Or.inl ⟨rfl, k.s8⟩
          sl := by simp
          fv := Or.inl ⟨rfl, k.s9⟩
          few := by simp
          small := fun b hb => Nat.lt_of_lt_of_le (h.small b hb) m.size
          ret := by rw [k.s10, h10]; exact ⟨none, 0, rfl, Nat.le_refl _, by decide, ⟨fun x hx => by simp at hx, fun q => absurd rfl q⟩⟩
          phase := by rw [k.s11]; exact h.phase
          hLt := by show st.phase ≤ 2; rw [h.ph]; decide
          status := by rw [k.s12]; exact h.status
          applied := k.s13
          limit := k.s14
          left := fun q => by have q2 : st.phase = 2 := q; rw [h.ph] at q2; cases q2
          price := k.s17
          pLt := hpr
          total := by rw [k.s18]; exact h.total.keep m hs
          tg := k.s15
          origin := k.s19
          oLt := hog
          made := k.s39
          mLt := hmd
          env := h.env.same (fun j hj _ => k.high j (by omega)) (fun _ _ q => q.keep m hs)
          now := h.now
          orig := rfl
          oY := h.oY
          oF := hF
          ne := hne
          frs := rfl
          fl := trivial
          tm := fun x hx => by cases hx
          td := List.Pairwise.nil
          tl := fun b hb => hb.elim
          lg := Or.inl (Or.inl ⟨h.lgs, by rw [k.low 4 (by decide)]; exact h.lg0⟩) }
/-- The frame in its box, as a top frame. -/
theorem YX.ofBox {B : Nat} {dB : Nat → Value} {f : AFrame} (h : YZ O TL w Y F n c d W start st tot L) (hB : O B) (bB : Blk w B 60 156 dB) (fc : YFC O (fun _ => False) w dB 0 f) (ok : FOK f) (hne : Y ≠ B) (htl : ∀ b, TL b → b ≠ B) : YX c O (fun _ => False) TL w Y B 0 60 156 c dB W start st f :=
  ⟨h.bY, bB, by decide, h.wc, h.lim, h.st8, h.sl, fc, ok, h.small, h.ret, h.env, h.price, h.pLt, h.origin, h.oLt, h.now, h.orig, h.oY, hB, hne, fun _ _ => rfl, fun b hb => hb.elim, fun b hb => ⟨(h.tl b hb).1, (h.tl b hb).2.1, htl b hb, id⟩, h.lg⟩
end
/-- The new frame in its box, no other. -/
structure ZB (O TL : Nat → Prop) (w : World) (Y F n : Nat) (c d : Nat → Value) (V : YW) (start : List (Nat × Nat × Nat)) (st : ASt) (tot B : Nat) (dB : Nat → Value) (g : AFrame) : Prop where
  z : YZ (Wd O B) TL w Y F n c d V start st tot []
  bB : Blk w B 60 156 dB
  fc : YFC (Wd O B) (fun _ => False) w dB 0 g
  hs : g.self < 2 ^ 160
  hc : g.caller < 2 ^ 160
  o1 : ∀ j, j < 60 → (dB j).oneCell' = true
  nY : B ≠ Y
  nF : B ≠ F
  nT : ∀ b, TL b → b ≠ B
section
variable {O TL : Nat → Prop} {w w' : World} {Y F n B tot : Nat} {c d dB : Nat → Value} {V : YW} {start : List (Nat × Nat × Nat)} {st : ASt} {g g' : AFrame}
theorem ZB.ext (h : ZB O TL w Y F n c d V start st tot B dB g) (e : Ext w w') : ZB O TL w' Y F n c d V start st tot B dB g :=
  ⟨h.z.ext e, h.bB.ext e, h.fc.ext e, h.hs, h.hc, h.o1, h.nY, h.nF, h.nT⟩
theorem ZB.put (h : ZB O TL w Y F n c d V start st tot B dB g) {i : Nat} {v : Value} (h1 : v.oneCell' = true) (m : Mod (· = B) w w') (hB : Blk w' B 60 156 (updv dB i v)) (hf : YFC (Wd O B) (fun _ => False) w (updv dB i v) 0 g') (hs : g'.self < 2 ^ 160) (hc : g'.caller < 2 ^ 160) : ZB O TL w' Y F n c d V start st tot B (updv dB i v) g' :=
  have hsB : ∀ b, ¬ Wd O B b → ¬ b = B := fun b hb q => hb (Or.inr q)
  ⟨h.z.keepS m hsB (fun q => h.nY q.symm) (fun q => h.nF q.symm) (fun x hx => by cases hx) (fun b hb => h.nT b hb), hB, hf.keep m hsB (fun b hb => hb.elim), hs, hc, fun j hj => by
    unfold updv
    split
    · exact h1
    · exact h.o1 j hj, h.nY, h.nF, h.nT⟩
theorem ZB.ones (h : ZB O TL w Y F n c d V start st tot B dB g) : Ones (rowOf dB 0 60) := ones_of (fun i hi => by
  rw [rowOf_size] at hi
  rw [cf_rowOf _ _ _ hi, Nat.zero_add]
  exact h.o1 i hi)
theorem ZB.row (h : ZB O TL w Y F n c d V start st tot B dB g) : YFC (Wd O B) (fun _ => False) w (cf (rowOf dB 0 60)) 0 g :=
  h.fc.same h.hs h.hc (fun j hj => by rw [Nat.zero_add, cf_rowOf _ _ _ (by omega), Nat.zero_add])
/-- The state changes beside the box. -/
theorem ZB.world {c' : Nat → Value} {V' : YW} {st' : ASt} (h : ZB O TL w Y F n c d V start st tot B dB g) (hz : YZ (Wd O B) TL w' Y F n c' d V' start st' tot []) (m : Mod (· = Y) w w') : ZB O TL w' Y F n c' d V' start st' tot B dB g :=
  ⟨hz, h.bB.mod m (fun q => h.nY q), h.fc.keep m (fun b hb q => hb (q ▸ hz.oY)) (fun b hb => hb.elim), h.hs, h.hc, h.o1, h.nY, h.nF, h.nT⟩
theorem ZB.top (h : ZB O TL w Y F n c d V start st tot B dB g) (ok : FOK g) : YX c (Wd O B) (fun _ => False) TL w Y B 0 60 156 c dB V start st g :=
  YX.ofBox h.z (Or.inr rfl) h.bB h.fc ok (fun q => h.nY q.symm) h.nT
end
section
variable {O O' : Nat → Prop} {w : World} {v : Value} {l : List Nat}
set_option maxRecDepth 100000 in
theorem yBytesOfX (hO : Small O w) (h : NLx O' w v l) (hle : l.length ≤ 140737488355328) : Calls Hvah.prog 36 #[v] w fun e w' => ∃ r, e = .returned r ∧ NL O w' r l ∧ Ext w w' := by
  obtain ⟨o, c, rfl, hc, hm, hb⟩ := h
  have hd := hb.lt
  have hnil := fun W => Lib.run_eql_slice_nil (P := Hvah.prog) W 23 5 o l.length c 0 0 Hvah.underlying23
  cases o with
  | none =>
    have hl : l = [] := by
      apply Decidable.byContradiction
      intro hne
      obtain ⟨b, off, q, _⟩ := hb.spot hne
      cases q
    subst hl
    simp only [List.length_nil] at hnil
    go_enter Hvah.func36, Hvah.ntmps36
    go_wp2
    go_ret
    exact ⟨_, rfl, NL.nil, Ext.refl _⟩
  | some ad =>
    by_cases hne : l = []
    · subst hne
      simp only [List.length_nil] at hnil
      go_enter Hvah.func36, Hvah.ntmps36
      go_wp2_with (first
        | (at_make; refine wl_make_bytes Hvah.underlying23 0 rfl rfl hle ?_)
        | ((with_reducible (refine Veil.out ?_; apply wl_copy0 Hvah.underlying23)); (case hd => rfl); (case hs => rfl); (case hl => rfl)))
      go_ret
      exact ⟨_, rfl, ⟨_, 0, rfl, by simp, by decide, by simp, fun q => absurd rfl q⟩, (Ext.refl _).alloc _ _⟩
    · go_enter Hvah.func36, Hvah.ntmps36
      go_wp2_with (first
        | (at_make; refine wl_make_bytes Hvah.underlying23 l.length rfl rfl hle ?_)
        | ((with_reducible (refine Veil.out ?_; apply wl_copy_bytes Hvah.underlying23 (L := List.replicate l.length 0) (t := 5) (l := l))); (case hd => rfl); (case hs => rfl); (case hg => exact heap_new _ _); (case hl => simp); (case hsrc => exact (hb.ext ((Ext.refl _).alloc _ _)).src hne); (case hfit => simp)))
      go_ret
      refine ⟨_, rfl, ?_, ((Ext.refl _).alloc _ _).setRow (Nat.le_refl _) _⟩
      refine NL.row (t := 5) ?_ hd (fun hx => Nat.lt_irrefl _ (hO _ hx)) rfl hle
      rw [setRow_heap _ _ _ _ _ _ (heap_new _ _)]
end
/-- The frame that Begin builds, as a function. -/
def b147Er (P : Program) (a s : Nat) (u v : Value) : Array Value := bltOf P 156 ([(0, .int .u8 0), (4, u), (5, v), (12, .agg (av a)), (13, .agg (av s))] : List (Nat × Value))
theorem b147E {a s : Nat} (ha : a < 2 ^ 160) (hs : s < 2 ^ 160) {u v : Value} (hu : u.oneCell' = true) (hv : v.oneCell' = true) : (∀ w, (Instr.build 156 ([(0, .int .u8 0), (4, u), (5, v), (12, .agg (av a)), (13, .agg (av s))] : List (Nat × Value)).toArray).run Hvah.prog w = .ok (.agg (b147Er Hvah.prog a s u v)) w) ∧ (b147Er Hvah.prog a s u v).size = 60 ∧ Ones (b147Er Hvah.prog a s u v) ∧
    ∀ (O TM : Nat → Prop) (w : World) (x y : Nat) (sv : AW), NV O w u x → NV O w v y → YFC O TM w (cf (b147Er Hvah.prog a s u v)) 0 { fr0 with kind := 0, gas := x, value := y, self := a, caller := s, saved := sv } := by
  have e : b147Er Hvah.prog a s u v = (b147e ha hs hu hv).choose := bltOf_eq (b147e ha hs hu hv).choose_spec.1
  rw [e]; exact (b147e ha hs hu hv).choose_spec
theorem post_u8b {R : Ending → World → Prop} {ac : Act} {w : World} {v : Value} (hv : ac.tmps.getD 4 undef = v) (hdf : ac.defers = []) (h : R (.returned v) w) : bodyPost Hvah.prog Hvah.f29 R .ret ac w := by
  subst hv; exact bodyPost_ret (results_tmp rfl _ _ _) hdf h
/-- The access list made warm. -/
def YW.warmKeys (W : YW) (a : Nat) (ks : List Nat) : YW := ks.foldl (fun W k => W.warmSlot a k) W
def YW.warmList (W : YW) (l : List (Nat × List Nat)) : YW := l.foldl (fun W a => (W.warm a.1).warmKeys a.1 a.2) W
theorem warmKeys_all (a : Nat) : ∀ (ks : List Nat) (W : YW), W.WF → (∀ k ∈ ks, k < Pk) → (W.warmKeys a ks).WF ∧ (W.warmKeys a ks).abs = ks.foldl (fun w k => w.warmSlot a k) W.abs ∧ (W.warmKeys a ks).siz ≤ W.siz + ks.length
  | [], W, h, _ => ⟨h, rfl, Nat.le_refl _⟩
  | k :: ks, W, h, hk => by
    have h1 := hk k (by simp)
    have ih := warmKeys_all a ks (W.warmSlot a k) (YW.warmSlot_wf h a k h1) (fun q hq => hk q (by simp [hq]))
    rw [YW.warmSlot_abs h a k h1] at ih
    refine ⟨ih.1, ih.2.1, ?_⟩
    have := ih.2.2
    have := (siz_warmSlot W a k).1
    show ((W.warmSlot a k).warmKeys a ks).siz ≤ _
    rw [List.length_cons]; omega
theorem warmList_all : ∀ (l : List (Nat × List Nat)) (W : YW), W.WF → (∀ p ∈ l, ∀ k ∈ p.2, k < Pk) → (W.warmList l).WF ∧ (W.warmList l).abs = W.abs.warmList l ∧ (W.warmList l).siz ≤ W.siz + l.length + keysN l
  | [], W, h, _ => ⟨h, rfl, by simp [YW.warmList]⟩
  | p :: l, W, h, hk => by
    have h1 := warmKeys_all p.1 p.2 (W.warm p.1) (YW.warm_wf h p.1) (hk p (by simp))
    have ih := warmList_all l _ h1.1 (fun q hq => hk q (by simp [hq]))
    rw [h1.2.1, YW.warm_abs] at ih
    refine ⟨ih.1, ih.2.1, ?_⟩
    have := ih.2.2
    have := h1.2.2
    have := (siz_warm W p.1).1
    have e : keysN (p :: l) = p.2.length + keysN l := rfl
    show (((W.warm p.1).warmKeys p.1 p.2).warmList l).siz ≤ _
    rw [List.length_cons, e]; omega
theorem warmList_succ (W : YW) (l : List (Nat × List Nat)) (i : Nat) (h : i < l.length) : W.warmList (l.take (i + 1)) = ((W.warmList (l.take i)).warm l[i].1).warmKeys l[i].1 l[i].2 := by
  rw [List.take_succ_eq_append_getElem h]
  unfold YW.warmList
  rw [List.foldl_append]
  rfl
theorem warmKeys_succ (W : YW) (a : Nat) (ks : List Nat) (i : Nat) (h : i < ks.length) : W.warmKeys a (ks.take (i + 1)) = (W.warmKeys a (ks.take i)).warmSlot a ks[i] := by
  rw [List.take_succ_eq_append_getElem h]
  unfold YW.warmKeys
  rw [List.foldl_append]
  rfl
theorem aWarmList_succ (W : AW) (l : List (Nat × List Nat)) (i : Nat) (h : i < l.length) : W.warmList (l.take (i + 1)) = l[i].2.foldl (fun w k => w.warmSlot l[i].1 k) ((W.warmList (l.take i)).warm l[i].1) := by
  rw [List.take_succ_eq_append_getElem h]
  unfold AW.warmList
  rw [List.foldl_append]
  rfl
theorem aWarmKeys_succ (W : AW) (a : Nat) (ks : List Nat) (i : Nat) (h : i < ks.length) : (ks.take (i + 1)).foldl (fun w k => w.warmSlot a k) W = ((ks.take i).foldl (fun w k => w.warmSlot a k) W).warmSlot a ks[i] := by
  rw [List.take_succ_eq_append_getElem h, List.foldl_append]
  rfl
theorem bkeysN_take (l : List (Nat × List Nat)) : ∀ i, keysN (l.take i) ≤ keysN l := by
  induction l with
  | nil => intro i; simp
  | cons p l ih =>
    intro i
    cases i with
    | zero => simp [keysN]
    | succ i =>
      have := ih i
      have e1 : keysN ((p :: l).take (i + 1)) = p.2.length + keysN (l.take i) := rfl
      have e2 : keysN (p :: l) = p.2.length + keysN l := rfl
      omega
theorem bkeysN_get (l : List (Nat × List Nat)) : ∀ i (h : i < l.length), keysN (l.take i) + l[i].2.length ≤ keysN l := by
  induction l with
  | nil => intro i h; simp at h
  | cons p l ih =>
    intro i h
    have e2 : keysN (p :: l) = p.2.length + keysN l := rfl
    cases i with
    | zero => simp [keysN]
    | succ i =>
      have := ih i (by simpa using h)
      have e1 : keysN ((p :: l).take (i + 1)) = p.2.length + keysN (l.take i) := rfl
      rw [e1, e2, List.getElem_cons_succ]
      omega
theorem WL.keepb {O : Nat → Prop} {w w' : World} {v : Value} {l : List Nat} {Y : Nat} (h : WL O w v l) (m : Mod (· = Y) w w') (hY : O Y) : WL O w' v l := by
  rcases h with h | ⟨b, off, cap, h1, h2, h3, h4, h5, h6⟩
  · exact Or.inl h
  · exact Or.inr ⟨b, off, cap, h1, h2, h3, h4, Nat.lt_of_lt_of_le h5 m.size, fun i hi => ⟨(h6 i hi).1, RowIn.keep (S := (· = Y)) (h6 i hi).2 h5 m (fun q => h4 (q ▸ hY))⟩⟩
theorem KL.keepb {O : Nat → Prop} {w w' : World} {v : Value} {l : List Nat} {Y : Nat} (h : KL O w v l) (m : Mod (· = Y) w w') (hY : O Y) : KL O w' v l := h.keep m (fun b q e => q ((show b = Y from e) ▸ hY))
theorem TxC.keepb {O : Nat → Prop} {w w' : World} {c : Nat → Value} {t : ATx} {Y : Nat} (h : TxC O w c t) (m : Mod (· = Y) w w') (hY : O Y) : TxC O w' c t :=
  { h with
    data := by
      obtain ⟨o, c, h1, h2, h3, h4, h5⟩ := h.data
      refine ⟨o, c, h1, h2, h3, h4, fun hl => ?_⟩
      obtain ⟨b, off, q1, q2, q3, q4⟩ := h5 hl
      exact ⟨b, off, q1, q2, Nat.lt_of_lt_of_le q3 m.size, fun i hi => (m.cell (p := ⟨b, off + i, none⟩) q3 (fun q => q2 ((show b = Y from q) ▸ hY))).trans (q4 i hi)⟩
    access := by
      rcases h.access with q | ⟨b, off, cap, cc, h1, h2, h3, h4, h5, h6, h7⟩
      · exact Or.inl q
      · exact Or.inr ⟨b, off, cap, cc, h1, h2, h3, h4, Nat.lt_of_lt_of_le h5 m.size, fun i hi => (m.cell (p := ⟨b, off + i, none⟩) h5 (fun q => h4 ((show b = Y from q) ▸ hY))).trans (h6 i hi), fun i hi => ⟨(h7 i hi).addr, (h7 i hi).aLt, (h7 i hi).keys.keepb m hY⟩⟩ }
theorem acc_keys {O : Nat → Prop} {w : World} {v : Value} {l : List (Nat × List Nat)} (h : EL 21 (AcC O w) O w v l) : ∀ p ∈ l, ∀ k ∈ p.2, k < Pk := by
  intro p hp k hk
  have eP : Pk = P256 := by unfold Pk; rw [P256_eq]
  obtain ⟨i, hi, rfl⟩ := List.getElem_of_mem hp
  rcases h with ⟨rfl, _⟩ | ⟨b, off, cap, cc, h1, h2, h3, h4, h5, h6, h7⟩
  · simp at hi
  · have hki := (h7 i hi).keys
    rcases hki with ⟨q, _⟩ | ⟨_, _, _, _, _, _, _, _, q⟩
    · rw [q] at hk; cases hk
    · obtain ⟨j, hj, rfl⟩ := List.getElem_of_mem hk
      rw [eP]; exact (q j hj).1
/-- A balance that is lowered. -/
theorem limLow {T S : Nat} {og : Nat → Nat → Nat} {W2 : YW} (hs : W2.siz ≤ 89000) (hi : WInv T S og W2.abs) (hT : T < P256) (hS : 199 * S < 18446744073709551616) (a v : Nat) : YLim (W2.setBal a ((W2.acct a).bal - v)) := by
  have s1 := (siz_setBal W2 a ((W2.acct a).bal - v)).1
  have ea := YW.setBal_abs W2 a ((W2.acct a).bal - v)
  refine YLim.of (by omega) (fun b => ?_) (fun b => ?_) (fun b => ?_) ?_
  · show ((W2.setBal a ((W2.acct a).bal - v)).abs.code b).length ≤ _
    rw [ea]
    have := hi.code b
    show (W2.abs.code b).length ≤ _
    omega
  · show (W2.setBal a ((W2.acct a).bal - v)).abs.nonce b < _
    rw [ea]; exact hi.nonce b
  · show (W2.setBal a ((W2.acct a).bal - v)).abs.bal b < _
    rw [ea]
    have h1 := hi.sum.one b
    show up W2.abs.bal a ((W2.acct a).bal - v) b < _
    unfold up
    split
    · have h3 : (W2.acct a).bal ≤ T := hi.sum.one a
      omega
    · omega
  · show (W2.setBal a ((W2.acct a).bal - v)).abs.refund < _
    rw [ea]
    have := hi.ref
    show W2.abs.refund < _
    omega
end Go.Proofs.YgvahwGreat
