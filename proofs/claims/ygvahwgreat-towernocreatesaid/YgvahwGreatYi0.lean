import Derived.Test.YgvahwGreatYa
import Derived.Test.YgvahwGreatId
import Derived.Test.YgvahwGreatYj
import Derived.Test.YgvahwGreatYm3
import Derived.Test.YgvahwGreatTop
namespace Go.Proofs.YgvahwGreat
open Go.RowKit
/-- The specification between two transactions. -/
structure YI (O : Nat → Prop) (w : World) (Y : Nat) (c : Nat → Value) (W : YW) (st : ASt) (tot : Nat) : Prop where
  bY : Blk w Y 179 118 c
  wc : YWC O w c 0 W
  lim : YLim W
  wf : W.WF
  small : Small O w
  phase : c 11 = .int .u8 (st.phase : Nat)
  ph : st.phase = 0
  status : c 12 = .int .u8 (st.status : Nat)
  applied : c 13 = .int .u8 (st.applied : Nat)
  total : NV O w (c 18) tot
  env : EnvC O w c 59 st.env
  now : st.now = W.abs
  oY : O Y
  lg0 : c 4 = .slice none 0 0
  lgs : W.logs = []
section
variable {O : Nat → Prop} {w w' : World} {Y : Nat} {c : Nat → Value} {W : YW} {st : ASt} {tot : Nat}
theorem YI.ext (h : YI O w Y c W st tot) (e : Ext w w') : YI O w' Y c W st tot :=
  ⟨h.bY.ext e, h.wc.ext e, h.lim, h.wf, h.small.ext e, h.phase, h.ph, h.status, h.applied, h.total.ext e, h.env.ext e, h.now, h.oY, h.lg0, h.lgs⟩
theorem iAcc {t : TypeId} (hB : Blk w Y 179 t c) (hA : AccL O w (c 0) W.accts) (hl : W.accts.length ≤ 90000) (a : Nat) (ha : a < 2 ^ 160) : Calls Hvah.prog 53 #[.pointer (some ⟨Y, 0, none⟩), .agg (av a)] w fun e w' => ∃ u1 u2 u3 u4, e = .returned (.agg (acR a u1 u2 u3 u4)) ∧ AcP O w' (W.acct a) u1 u2 u3 u4 ∧ AcG a u1 u2 u3 u4 ∧ Ext w w' := by
  refine (yAccount hB (by decide) W.accts hA a ha (Nat.le_trans hl (by decide))).mono ?_
  rintro e w1 ⟨r, rfl, ⟨u1, u2, u3, u4, rfl, hp⟩, he⟩
  have hp2 : AcP O w1 (W.acct a) u1 u2 u3 u4 := hp
  refine ⟨u1, u2, u3, u4, ?_, hp2, hp2.g (W.acct_addr a), he⟩
  have := W.acct_addr a
  unfold YW.acct at this
  rw [this]
theorem AccL.widenI {B : Nat} {v : Value} {l : List YA} (h : AccL O w v l) (hB : w.heap.size ≤ B) : AccL (Wd O B) w v l := GRow.widen h hB (fun _ _ _ k => ⟨k.addr, k.parts.widen hB⟩)
theorem acR_c {a : Nat} (ha : a < 2 ^ 160) (u1 u2 u3 u4 : Value) : cf (acR a u1 u2 u3 u4) 22 = u3 := by
  unfold acR; rw [cf_append, if_neg (by rw [av_size ha]; omega), av_size ha]; rfl
theorem onet26v : OneT 24 := oneT_of (by kernel_rfl) (by kernel_rfl)
theorem rt35y : RowT 40 174 := rowT_of (by kernel_rfl) (by kernel_rfl)
end
end Go.Proofs.YgvahwGreat
