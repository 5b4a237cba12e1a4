import Derived.Test.YgvahwGreatIc
import Derived.Test.YgvahwGreatEdA
import Derived.Test.YgvahwGreatEdB
import Derived.Test.YgvahwGreatEdC
import Derived.Test.YgvahwGreatEdD
import Derived.Test.YgvahwGreatEdE
import Derived.Test.YgvahwGreatEdF
import Derived.Test.YgvahwGreatEdG
import Derived.Test.YgvahwGreatEdH
import Derived.Test.YgvahwGreatEdI
import Derived.Test.YgvahwGreatEdJ
import Derived.Test.YgvahwGreatEdK
import Derived.Test.YgvahwGreatEdL
namespace Go.Proofs.YgvahwGreat
open Go.RowKit
section
variable {own : Nat → Nat} {w : World} {g : Nat} {c : Nat → Value} {V : EV} {st : ASt} {sn stale : List Nat} {r : Array Value} {t : ATx}
/-- The letters of the verdict. -/
theorem eVIn (h : MRep own w g c V st sn stale) (hr : r.size = 174) (hT : TxC (Mu own) w (cf r) t) (hp : st.phase = 0) (ha : st.applied < 4) :
    VIn own w g c r t.from_ t.nonce t.gas t.data.length t.intrinsic st.env.gasLimit t.most t.tipF st.env.baseFee t.value (st.now.bal t.from_) (st.now.nonce t.from_) (st.now.code t.from_).length t.create t.listOK := by
  have hn : st.now.nonce t.from_ = (V.acct t.from_).nonce := by rw [← h.abs]; rfl
  have hb : st.now.bal t.from_ = (V.acct t.from_).bal := by rw [← h.abs]; rfl
  have hc : st.now.code t.from_ = (V.acct t.from_).code := by rw [← h.abs]; rfl
  rw [hn, hb, hc]
  exact {
    ptr := h.m.ptr
    blk := h.v.blk
    phase := by have := h.m.phase; rw [hp] at this; exact this
    applied := ⟨st.applied, ha, h.m.applied⟩
    gasLimit := h.m.env.gasLimit
    hbase := h.m.env.baseFee
    bLt := h.m.env.bLt
    sz := hr
    from_ := hT.from_
    aLt := hT.fLt
    create := hT.create
    nonce := hT.nonce
    hgas := hT.gas
    gLt := hT.gLt
    data := by obtain ⟨o, k, h1, h2, h3, _⟩ := hT.data; exact ⟨o, k, h1, h2, h3⟩
    value := hT.value
    vLt := hT.vLt
    mLt := ATx.mostLt hT
    tLt := ATx.tipLt hT
    balLt := h.v.balLt _
    HL := fun W hW B hB => oListOK hB (hT.ext hW)
    HN := fun W hW => vNonce (h.v.ext hW) hT.fLt
    HC := fun W hW => (vCode (h.v.ext hW) hT.fLt).mono (fun e w' q => by
      obtain ⟨r, h1, ⟨o, k, h2, h3, h4, _⟩, h5⟩ := q
      subst h2
      exact ⟨o, k, h1, by omega, h5⟩)
    HI := fun h1 h2 W hW => by
      have h3 : t.access.length ≤ 16 ∧ keysN t.access ≤ 64 := by unfold ATx.listOK at h2; exact of_decide_eq_true h2
      exact mIntrinsic hr (hT.ext hW) h1 h3.1 h3.2
    HF := fun W hW => eFees hr (hT.ext hW)
    HB := fun W hW => vBalance (h.v.ext hW) hT.fLt }
/-- The engine's verdict. -/
theorem eVerdict (h : MRep own w g c V st sn stale) (hr : r.size = 174) (hT : TxC (Mu own) w (cf r) t) (hp : st.phase = 0) (ha : st.applied < 4) :
    Calls Hvah.prog 99 #[.pointer (some ⟨g, 0, none⟩), .agg r] w fun e w' => ∃ p, e = .returned (.tuple #[.int .u8 (st.verdict t : Nat), wv p]) ∧ (st.verdict t = 0 → p = st.priceOf t) ∧ Ext w w' := by
  have H := eVIn h hr hT hp ha
  have hbl : st.now.bal t.from_ < P256 := H.balLt
  have K : ∀ (v : Nat) (P : Ending → World → Prop), v ≠ 0 → st.verdict t = v → Calls Hvah.prog 99 #[.pointer (some ⟨g, 0, none⟩), .agg r] w (fun e w' => ∃ p, e = .returned (.tuple #[.int .u8 (v : Nat), wv p]) ∧ Ext w w') → Calls Hvah.prog 99 #[.pointer (some ⟨g, 0, none⟩), .agg r] w fun e w' => ∃ p, e = .returned (.tuple #[.int .u8 (st.verdict t : Nat), wv p]) ∧ (st.verdict t = 0 → p = st.priceOf t) ∧ Ext w w' := fun v P hv he hC => by
    rw [he]
    exact hC.mono (fun e w' ⟨p, h1, h2⟩ => ⟨p, h1, fun q => absurd q hv, h2⟩)
  have hph : ¬ st.phase ≠ 0 := fun q => q hp
  have hap : ¬ 4 ≤ st.applied := by omega
  by_cases h1 : 1048576 < t.gas
  · exact K 3 (fun _ _ => True) (by decide) (by unfold ASt.verdict; rw [if_neg hph, if_neg hap, if_pos (Or.inl h1)]) (eVer3a H h1)
  by_cases h2 : 1024 < t.data.length
  · exact K 3 (fun _ _ => True) (by decide) (by unfold ASt.verdict; rw [if_neg hph, if_neg hap, if_pos (Or.inr (Or.inl h2))]) (eVer3b H h1 h2)
  by_cases h3 : t.listOK = false
  · exact K 3 (fun _ _ => True) (by decide) (by unfold ASt.verdict; rw [if_neg hph, if_neg hap, if_pos (Or.inr (Or.inr h3))]) (eVer3c H h1 h2 h3)
  have h3' : t.listOK = true := by cases hq : t.listOK <;> simp_all
  have n3 : ¬ (1048576 < t.gas ∨ 1024 < t.data.length ∨ t.listOK = false) := by rintro (q | q | q) <;> contradiction
  by_cases h4 : t.nonce = st.now.nonce t.from_
  rotate_left
  · exact K 4 (fun _ _ => True) (by decide) (by unfold ASt.verdict; rw [if_neg hph, if_neg hap, if_neg n3, if_pos h4]) (eVer4 H h1 h2 h3' h4)
  have n4 : ¬ t.nonce ≠ st.now.nonce t.from_ := fun q => q h4
  by_cases h5 : t.nonce = 18446744073709551615
  · exact K 5 (fun _ _ => True) (by decide) (by unfold ASt.verdict; rw [if_neg hph, if_neg hap, if_neg n3, if_neg n4, if_pos (by rw [← h4]; exact h5)]) (eVer5 H h1 h2 h3' h4 h5)
  have n5 : ¬ st.now.nonce t.from_ = 18446744073709551615 := by rw [← h4]; exact h5
  by_cases h6 : (st.now.code t.from_).length = 0
  rotate_left
  · exact K 6 (fun _ _ => True) (by decide) (by unfold ASt.verdict; rw [if_neg hph, if_neg hap, if_neg n3, if_neg n4, if_neg n5, if_pos (fun q => h6 (by rw [q]; rfl))]) (eVer6 H h1 h2 h3' h4 h5 (by omega))
  have n6 : ¬ st.now.code t.from_ ≠ [] := fun q => q (List.length_eq_zero_iff.1 h6)
  by_cases h7 : t.create = true ∧ 512 < t.data.length
  · exact K 7 (fun _ _ => True) (by decide) (by unfold ASt.verdict; rw [if_neg hph, if_neg hap, if_neg n3, if_neg n4, if_neg n5, if_neg n6, if_pos h7]) (eVer7 H h1 h2 h3' h4 h5 h6 h7.1 h7.2)
  by_cases h8 : t.gas < t.intrinsic
  · exact K 8 (fun _ _ => True) (by decide) (by unfold ASt.verdict; rw [if_neg hph, if_neg hap, if_neg n3, if_neg n4, if_neg n5, if_neg n6, if_neg h7, if_pos h8]) (eVer8 H h1 h2 h3' h4 h5 h6 h7 h8)
  by_cases h9 : st.env.gasLimit < t.gas
  · exact K 9 (fun _ _ => True) (by decide) (by unfold ASt.verdict; rw [if_neg hph, if_neg hap, if_neg n3, if_neg n4, if_neg n5, if_neg n6, if_neg h7, if_neg h8, if_pos h9]) (eVer9 H h1 h2 h3' h4 h5 h6 h7 h8 h9)
  have v10 : st.now.bal t.from_ < t.gas * t.most + t.value → st.verdict t = 10 := fun q => by unfold ASt.verdict; rw [if_neg hph, if_neg hap, if_neg n3, if_neg n4, if_neg n5, if_neg n6, if_neg h7, if_neg h8, if_neg h9, if_pos q]
  by_cases h10 : P256 ≤ t.gas * t.most
  · exact K 10 (fun _ _ => True) (by decide) (v10 (by omega)) (eVer10a H h1 h2 h3' h4 h5 h6 h7 h8 h9 h10)
  have hm : t.gas * t.most % P256 = t.gas * t.most := Nat.mod_eq_of_lt (by omega)
  by_cases h11 : P256 ≤ t.gas * t.most % P256 + t.value
  · exact K 10 (fun _ _ => True) (by decide) (v10 (by omega)) (eVer10b H h1 h2 h3' h4 h5 h6 h7 h8 h9 h10 h11)
  have hm2 : (t.gas * t.most % P256 + t.value) % P256 = t.gas * t.most + t.value := by rw [Nat.mod_eq_of_lt (by omega), hm]
  by_cases h12 : st.now.bal t.from_ < (t.gas * t.most % P256 + t.value) % P256
  · exact K 10 (fun _ _ => True) (by decide) (v10 (by omega)) (eVer10c H h1 h2 h3' h4 h5 h6 h7 h8 h9 h10 h11 h12)
  have n12 : ¬ st.now.bal t.from_ < t.gas * t.most + t.value := by omega
  by_cases h13 : t.most < t.tipF
  · exact K 11 (fun _ _ => True) (by decide) (by unfold ASt.verdict; rw [if_neg hph, if_neg hap, if_neg n3, if_neg n4, if_neg n5, if_neg n6, if_neg h7, if_neg h8, if_neg h9, if_neg n12, if_pos h13]) (eVer11 H h1 h2 h3' h4 h5 h6 h7 h8 h9 h10 h11 h12 h13)
  by_cases h14 : t.most < st.env.baseFee
  · exact K 12 (fun _ _ => True) (by decide) (by unfold ASt.verdict; rw [if_neg hph, if_neg hap, if_neg n3, if_neg n4, if_neg n5, if_neg n6, if_neg h7, if_neg h8, if_neg h9, if_neg n12, if_neg h13, if_pos h14]) (eVer12 H h1 h2 h3' h4 h5 h6 h7 h8 h9 h10 h11 h12 h13 h14)
  have v0 : st.verdict t = 0 := by unfold ASt.verdict; rw [if_neg hph, if_neg hap, if_neg n3, if_neg n4, if_neg n5, if_neg n6, if_neg h7, if_neg h8, if_neg h9, if_neg n12, if_neg h13, if_neg h14]
  rw [v0]
  by_cases h15 : t.tipF < t.most - st.env.baseFee
  · exact (eVer0a H h1 h2 h3' h4 h5 h6 h7 h8 h9 h10 h11 h12 h13 h14 h15).mono (fun e w' ⟨p, q1, q2, q3⟩ => ⟨p, q1, fun _ => q2, q3⟩)
  · exact (eVer0b H h1 h2 h3' h4 h5 h6 h7 h8 h9 h10 h11 h12 h13 h14 h15).mono (fun e w' ⟨p, q1, q2, q3⟩ => ⟨p, q1, fun _ => q2, q3⟩)
end
end Go.Proofs.YgvahwGreat
