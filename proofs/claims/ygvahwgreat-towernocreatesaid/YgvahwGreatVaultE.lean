import Derived.Test.YgvahwGreatVaultD
import Derived.Test.YgvahwGreatGRow
namespace Go.Proofs.YgvahwGreat
open Go.RowKit

/-! The blocks that may change bear a tag: 1 accounts, 2 slots, 3 journal, 4 logs, 5 transient slots, 6 their table, 7 memory, 8 the chain; 0 for all others. -/
abbrev Ow (own : Nat → Nat) (k : Nat) : Nat → Prop := fun b => own b = k
abbrev Mu (own : Nat → Nat) : Nat → Prop := fun b => own b ≠ 0
/-- An entry of the journal, from cell o on. -/
structure JEC (O : Nat → Prop) (w : World) (c : Nat → Value) (o : Nat) (e : JE) : Prop where
  kind : c o = .int .u8 (e.kind : Nat)
  at_ : c (o + 1) = .int .i32 (e.at_ : Nat)
  n : c (o + 2) = .int .u64 (e.n : Nat)
  wd : WAt c (o + 3) e.w
  bs : NL O w (c (o + 7)) e.b
  flag : c (o + 8) = .bool e.flag
  kLt : e.kind ≤ 10
  aLt : e.at_ < 16384
  nLt : e.n < 18446744073709551616
  wLt : e.w < P256
/-- A list of words, each 32 bytes. -/
def WL (O : Nat → Prop) (w : World) (v : Value) (l : List Nat) : Prop :=
  (l = [] ∧ v = .slice none 0 0) ∨ ∃ b off cap, v = .slice (some ⟨b, off, none⟩) l.length cap ∧ l.length ≤ cap ∧ cap ≤ 9223372036854775807 ∧ ¬ O b ∧ b < w.heap.size ∧ ∀ (i : Nat) (h : i < l.length), l[i] < P256 ∧ RowIn w b (off + i * 32) (bw l[i])
/-- A log, from cell o on. -/
structure LogC (O : Nat → Prop) (w : World) (c : Nat → Value) (o : Nat) (x : ALog) : Prop where
  addr : AAt c o x.addr
  aLt : x.addr < 2 ^ 160
  topics : WL O w (c (o + 20)) x.topics
  data : NL O w (c (o + 21)) x.data
/-- The journal's entries have their places, the marks lie in it. -/
structure EV.JOK0 (V : EV) : Prop where
  fits : ∀ e ∈ V.journal, V.fits e
  marks : ∀ p ∈ V.marks, p ≤ V.journal.length
  fall : V.marks.Pairwise fun x y => y ≤ x
/-- The vault lies in the chain's block from cell 2435 on. -/
structure VRep (own : Nat → Nat) (w : World) (g : Nat) (c : Nat → Value) (V : EV) : Prop where
  blk : Blk w g 27024 105 c
  tag : own g = 8
  fresh : ∀ b, w.heap.size ≤ b → own b = 0
  wf : V.WF
  jok : V.JOK0
  nA : V.accts.length ≤ 2560
  nS : V.slots.length ≤ 2560
  nT : V.temps.length ≤ 12288
  nJ : V.journal.length ≤ 65536
  nL : V.logs.length ≤ 2800
  nM : V.marks.length ≤ 16384
  accts : GRow 176 29 (AcctC (Mu own) w) (Ow own 1) w (c 2435) V.accts
  slots : GRow 185 14 SlotC (Ow own 2) w (c 2436) V.slots
  temps : GRow 439 9 TempC (Ow own 5) w (c 27017) V.temps
  jrn : GRow 227 9 (JEC (Mu own) w) (Ow own 3) w (c 10629) V.journal.reverse
  logs : GRow 141 22 (LogC (Mu own) w) (Ow own 4) w (c 27016) V.logs
  tA : ∃ t, (∀ p, p < 4096 → c (2437 + p) = .int .i32 (t p)) ∧ TOK 4096 V.accts.length (fun i => acctH (V.accts.getD i (EAcct.new 0)).addr) t
  tS : ∃ t, (∀ p, p < 4096 → c (6533 + p) = .int .i32 (t p)) ∧ TOK 4096 V.slots.length (fun i => mixP (V.slots.getD i (ESlot.new 0 0)).acct (V.slots.getD i (ESlot.new 0 0)).key % 4096) t
  tT : (V.temps = [] ∧ c 27018 = .slice none 0 0) ∨ ∃ t, TTab (Ow own 6) w (c 27018) t ∧ TOK 16384 V.temps.length (fun i => mixP (V.temps.getD i (ETemp.new 0 0)).acct (V.temps.getD i (ETemp.new 0 0)).key % 16384) t
  marks : ∀ id, id < V.marks.length → c (10630 + id) = .int .i32 (V.markAt id : Nat)
  nm : c 27014 = .int .i32 (V.marks.length : Nat)
  ref : c 27015 = .int .u64 (V.ref : Nat)
  rLt : V.ref < 18446744073709551616
/-- What a function of the vault leaves alone. -/
structure VStep (own : Nat → Nat) (w : World) (c : Nat → Value) (own' : Nat → Nat) (w' : World) (c' : Nat → Value) : Prop where
  keep : ∀ b, b < w.heap.size → own' b = own b
  far : ∀ i, i < 2435 ∨ 27019 ≤ i → c' i = c i
  mod : Mod (fun b => (own b ≠ 0 ∧ own b ≠ 9) ∧ own b ≠ 7) w w'
theorem VStep.trans {own own' own'' : Nat → Nat} {w w' w'' : World} {c c' c'' : Nat → Value} (h : VStep own w c own' w' c') (k : VStep own' w' c' own'' w'' c'') : VStep own w c own'' w'' c'' :=
  ⟨fun b hb => (k.keep b (Nat.lt_of_lt_of_le hb h.mod.size)).trans (h.keep b hb), fun i hi => (k.far i hi).trans (h.far i hi), h.mod.trans' k.mod (fun b hb => by
    rcases Nat.lt_or_ge b w.heap.size with h1 | h1
    · left; rw [h.keep b h1] at hb; exact hb
    · exact Or.inr h1)⟩
theorem VStep.ext {own : Nat → Nat} {w w' : World} {c : Nat → Value} (e : Ext w w') : VStep own w c own w' c := ⟨fun _ _ => rfl, fun _ _ => rfl, e.mod _⟩

theorem AcctC.ext {O : Nat → Prop} {w w' : World} {c : Nat → Value} {o : Nat} {x : EAcct} (h : AcctC O w c o x) (e : Ext w w') : AcctC O w' c o x := ⟨h.addr, h.aLt, h.nonce, h.nLt, h.bal, h.bLt, h.code.ext e, h.warm, h.made, h.gone⟩
theorem JEC.ext {O : Nat → Prop} {w w' : World} {c : Nat → Value} {o : Nat} {x : JE} (h : JEC O w c o x) (e : Ext w w') : JEC O w' c o x := ⟨h.kind, h.at_, h.n, h.wd, h.bs.ext e, h.flag, h.kLt, h.aLt, h.nLt, h.wLt⟩
theorem WL.ext {O : Nat → Prop} {w w' : World} {v : Value} {l : List Nat} (h : WL O w v l) (e : Ext w w') : WL O w' v l := by
  rcases h with h | ⟨b, off, cap, h1, h2, h3, h4, h5, h6⟩
  · exact Or.inl h
  · exact Or.inr ⟨b, off, cap, h1, h2, h3, h4, Nat.lt_of_lt_of_le h5 e.size, fun i hi => ⟨(h6 i hi).1, (h6 i hi).2.ext h5 e⟩⟩
theorem LogC.ext {O : Nat → Prop} {w w' : World} {c : Nat → Value} {o : Nat} {x : ALog} (h : LogC O w c o x) (e : Ext w w') : LogC O w' c o x := ⟨h.addr, h.aLt, h.topics.ext e, h.data.ext e⟩
theorem TTab.ext {T : Nat → Prop} {w w' : World} {v : Value} {t : Nat → Int} (h : TTab T w v t) (e : Ext w w') : TTab T w' v t := by
  obtain ⟨b, cap, c, h1, h2, h3, h4, h5⟩ := h
  exact ⟨b, cap, c, h1, h2, h3.ext e, h4, h5⟩
theorem VRep.ext {own : Nat → Nat} {w w' : World} {g : Nat} {c : Nat → Value} {V : EV} (h : VRep own w g c V) (e : Ext w w') : VRep own w' g c V :=
  { h with
    blk := h.blk.ext e
    fresh := fun b hb => h.fresh b (Nat.le_trans e.size hb)
    accts := h.accts.ext e (fun _ _ _ k => k.ext e)
    slots := h.slots.ext e (fun _ _ _ k => k)
    temps := h.temps.ext e (fun _ _ _ k => k)
    jrn := h.jrn.ext e (fun _ _ _ k => k.ext e)
    logs := h.logs.ext e (fun _ _ _ k => k.ext e)
    tT := by
      rcases h.tT with h1 | ⟨t, h1, h2⟩
      · exact Or.inl h1
      · exact Or.inr ⟨t, h1.ext e, h2⟩ }
theorem vFind {own : Nat → Nat} {w : World} {g : Nat} {c : Nat → Value} {V : EV} (h : VRep own w g c V) (a : Nat) (ha : a < 2 ^ 160) : ∃ t : Nat → Int, (∀ p, p < 4096 → c (2437 + p) = .int .i32 (t p)) ∧ TOK 4096 V.accts.length (fun i => acctH (V.accts.getD i (EAcct.new 0)).addr) t ∧
    ∀ W, Ext w W → Calls Hvah.prog 168 #[.pointer (some ⟨g, 2435, none⟩), .agg (av a)] W fun e w' => ∃ i f : Int, e = .returned (.tuple #[.int .i32 i, .int .i32 f]) ∧ foundA V.accts a t i f ∧ Ext W w' := by
  obtain ⟨t, h1, h2⟩ := h.tA
  exact ⟨t, h1, h2, fun W hW => vFindAcct _ _ g a c V.accts t W ha (h.blk.ext hW) h.nA h.wf.a1 ((h.ext hW).accts) h1 h2⟩
end Go.Proofs.YgvahwGreat
