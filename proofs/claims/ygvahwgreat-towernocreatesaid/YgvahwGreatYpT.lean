import Derived.Test.YgvahwGreatRowsF
import Derived.Test.YgvahwGreatMachA
import Derived.Test.YgvahwGreatYpS
import Derived.Test.YgvahwGreatYpQ
import Derived.Test.YgvahwGreatYpO
import Derived.Test.YgvahwGreatYpR
import Derived.Test.YgvahwGreatYpA
namespace Go.Proofs.YgvahwGreat
open Go.RowKit
/-- A log of a list. -/
structure LgC (O : Nat → Prop) (w : World) (c : Nat → Value) (o : Nat) (x : ALog) : Prop where
  addr : AAt c o x.addr
  aLt : x.addr < 2 ^ 160
  topics : WL O w (c (o + 20)) x.topics
  few : x.topics.length ≤ 4
  data : NL O w (c (o + 21)) x.data
abbrev LogL (T O : Nat → Prop) (w : World) (v : Value) (l : List ALog) : Prop := GRow 141 22 (LgC O w) T w v l
/-- A world, from cell q on, but for its logs. -/
structure YWC (O : Nat → Prop) (w : World) (c : Nat → Value) (q : Nat) (W : YW) : Prop where
  accts : AccL O w (c q) W.accts
  warmA : AddrL O w (c (q + 1)) W.warmA
  warmS : MarkL O w (c (q + 2)) W.warmS
  refund : NV O w (c (q + 3)) W.refund
  temps : TmpL 304 O w (c (q + 5)) W.temps
  made : AddrL O w (c (q + 6)) W.made
  gone : AddrL O w (c (q + 7)) W.gone
/-- A byte of a list. -/
def ByC (c : Nat → Value) (o x : Nat) : Prop := c o = .int .u8 (x : Nat) ∧ x < 256
/-- A stack: numbers at the head of a block. -/
def NumS (O : Nat → Prop) (w : World) (v : Value) (l : List Nat) : Prop := ∃ base cap, v = .slice base l.length cap ∧ l.length ≤ cap ∧ cap ≤ 9223372036854775807 ∧ (l ≠ [] → ∃ b m c, base = some ⟨b, 0, none⟩ ∧ Blk w b m 109 c ∧ l.length ≤ m ∧ ¬ O b ∧ ∀ (i : Nat) (h : i < l.length), NV O w (c i) l[i])
theorem NumS.slice {O : Nat → Prop} {w : World} {v : Value} {l : List Nat} (h : NumS O w v l) : ∃ o cap, v = .slice o l.length cap ∧ l.length ≤ 9223372036854775807 := by
  obtain ⟨o, cap, h1, h2, h3, _⟩ := h
  exact ⟨o, cap, h1, Nat.le_trans h2 h3⟩
theorem NumL.numS {O : Nat → Prop} {w : World} {v : Value} {l : List Nat} (h : NumL O w v l) : NumS O w v l := by
  rcases h with ⟨rfl, rfl⟩ | ⟨b, cap, c, h1, h2, h3, h4, h5, h6⟩
  · exact ⟨none, 0, rfl, Nat.le_refl _, by decide, fun q => absurd rfl q⟩
  · refine ⟨_, cap, h1, h2, h3, fun _ => ⟨b, cap * 1, c, rfl, h4, by omega, h5, fun i hi => ?_⟩⟩
    have := h6 i hi
    unfold NuC at this
    rwa [Nat.mul_one] at this
theorem NumS.ext {O : Nat → Prop} {w w' : World} {v : Value} {l : List Nat} (h : NumS O w v l) (e : Ext w w') : NumS O w' v l := by
  obtain ⟨o, cap, h1, h2, h3, h4⟩ := h
  refine ⟨o, cap, h1, h2, h3, fun q => ?_⟩
  obtain ⟨b, m, c, k1, k2, k3, k4, k5⟩ := h4 q
  exact ⟨b, m, c, k1, k2.ext e, k3, k4, fun i hi => (k5 i hi).ext e⟩
/-- Its first k. -/
theorem NumS.cut {O : Nat → Prop} {w : World} {base : Option Addr} {len cap : Nat} {l : List Nat} (h : NumS O w (.slice base len cap) l) (k : Nat) (hk : k ≤ l.length) : NumS O w (.slice base k k) (l.take k) := by
  obtain ⟨o, cap, h1, h2, h3, h4⟩ := h
  injection h1 with e1 e2 e3
  subst e1
  have hl : (l.take k).length = k := by rw [List.length_take]; omega
  refine ⟨base, k, by rw [hl], by rw [hl]; exact Nat.le_refl _, by omega, fun q => ?_⟩
  obtain ⟨b, m, c, k1, k2, k3, k4, k5⟩ := h4 (fun e => q (by rw [e]; simp))
  exact ⟨b, m, c, k1, k2, by omega, k4, fun i hi => by rw [List.getElem_take]; exact k5 i (by omega)⟩
/-- A frame, from cell q on, but for its saved world. -/
structure YFC (O TM : Nat → Prop) (w : World) (d : Nat → Value) (q : Nat) (f : AFrame) : Prop where
  kind : d q = .int .u8 (f.kind : Nat)
  pre : d (q + 1) = .int .u8 (f.pre : Nat)
  static : d (q + 2) = .bool f.static
  pc : NV O w (d (q + 3)) f.pc
  gas : NV O w (d (q + 4)) f.gas
  value : NV O w (d (q + 5)) f.value
  outOff : NV O w (d (q + 6)) f.outOff
  outLen : NV O w (d (q + 7)) f.outLen
  stack : NumS O w (d (q + 8)) f.stack.reverse
  mem : GRow 5 1 ByC TM w (d (q + 9)) f.mem
  code : NL O w (d (q + 10)) f.code
  input : NL O w (d (q + 11)) f.input
  self : AAt d (q + 12) f.self
  caller : AAt d (q + 32) f.caller
  mcap : ∀ o k cap, d (q + 9) = .slice o k cap → cap ≤ 140737488355328
theorem LgC.ext {O : Nat → Prop} {w w' : World} {c : Nat → Value} {o : Nat} {x : ALog} (h : LgC O w c o x) (e : Ext w w') : LgC O w' c o x := ⟨h.addr, h.aLt, h.topics.ext e, h.few, h.data.ext e⟩
theorem NumL.ext {O : Nat → Prop} {w w' : World} {v : Value} {l : List Nat} (h : NumL O w v l) (e : Ext w w') : NumL O w' v l := GRow.ext h e (fun _ _ _ (k : NV O w _ _) => k.ext e)
theorem AddrL.ext {O : Nat → Prop} {w w' : World} {v : Value} {l : List Nat} (h : AddrL O w v l) (e : Ext w w') : AddrL O w' v l := GRow.ext h e (fun _ _ _ k => k)
theorem AccL.ext {O : Nat → Prop} {w w' : World} {v : Value} {l : List YA} (h : AccL O w v l) (e : Ext w w') : AccL O w' v l := GRow.ext h e (fun _ _ _ k => k.ext e)
theorem MarkL.ext {O : Nat → Prop} {w w' : World} {v : Value} {l : List (Nat × Nat)} (h : MarkL O w v l) (e : Ext w w') : MarkL O w' v l := GRow.ext h e (fun _ _ _ k => k.ext e)
theorem TmpL.ext {t : TypeId} {O : Nat → Prop} {w w' : World} {v : Value} {l : List (Nat × Nat × Nat)} (h : TmpL t O w v l) (e : Ext w w') : TmpL t O w' v l := GRow.ext h e (fun _ _ _ k => k.ext e)
theorem YWC.ext {O : Nat → Prop} {w w' : World} {c : Nat → Value} {q : Nat} {W : YW} (h : YWC O w c q W) (e : Ext w w') : YWC O w' c q W :=
  ⟨AccL.ext h.accts e, AddrL.ext h.warmA e, MarkL.ext h.warmS e, h.refund.ext e, TmpL.ext h.temps e, AddrL.ext h.made e, AddrL.ext h.gone e⟩
theorem YFC.ext {O TM : Nat → Prop} {w w' : World} {d : Nat → Value} {q : Nat} {f : AFrame} (h : YFC O TM w d q f) (e : Ext w w') : YFC O TM w' d q f :=
  ⟨h.kind, h.pre, h.static, h.pc.ext e, h.gas.ext e, h.value.ext e, h.outOff.ext e, h.outLen.ext e, NumS.ext h.stack e, GRow.ext h.mem e (fun _ _ _ k => k), h.code.ext e, h.input.ext e, h.self, h.caller, h.mcap⟩
theorem dl_P256 {x : Nat} (h : x < P256) : dl x ≤ 32 := dl32 h
theorem FOK.argLt {f : AFrame} (h : FOK f) (i : Nat) : f.arg i < P256 := by
  unfold AFrame.arg
  rw [List.getD_eq_getElem?_getD]
  cases e : f.stack[i]? with
  | none => exact P256_pos
  | some x => exact h.sLt x (List.mem_of_getElem? e)
theorem FOK.adl {f : AFrame} (h : FOK f) (i : Nat) : dl (f.arg i) ≤ 32 := dl_P256 (h.argLt i)
theorem dl_end' {x y k : Nat} (hx : dl x ≤ k) (hy : dl y ≤ k) : dl (endA x y) ≤ k + 1 := by
  unfold endA
  split
  · exact Nat.zero_le _
  · exact dl_add x y k hx hy
theorem dl_max' {x y k : Nat} (hx : dl x ≤ k) (hy : dl y ≤ k) : dl (max x y) ≤ k := by
  rcases Nat.le_total x y with h | h
  · rw [Nat.max_eq_right h]; exact hy
  · rw [Nat.max_eq_left h]; exact hx
theorem dl_min' {x y k : Nat} (hx : dl x ≤ k) : dl (min x y) ≤ k := Nat.le_trans (dl_mono (Nat.min_le_left _ _)) hx
theorem dl_add' {x y k : Nat} (hx : dl x ≤ k) (hy : dl y ≤ k) : dl (x + y) ≤ k + 1 := dl_add x y k hx hy
theorem dl_words' {x k : Nat} (hx : dl x ≤ k) : dl ((x + 31) / 32) ≤ k + 1 := by
  cases k with
  | zero =>
    have h0 : x = 0 := by
      have := (dl_le_iff x 0).1 hx
      simpa using this
    subst h0; decide
  | succ k => exact dl_div _ _ _ (dl_add x 31 (k + 1) hx (Nat.le_trans (by decide : dl 31 ≤ 1) (by omega)))
theorem dl_mul' {x y k : Nat} (hx : dl x ≤ 400) (hy : dl y ≤ 400) : dl (x * y) ≤ k + 800 := Nat.le_trans (dl_mul x y 400 400 hx hy) (by omega)
set_option maxRecDepth 100000 in
theorem yArgS {O : Nat → Prop} {w : World} {F q n : Nat} {t : TypeId} {c : Nat → Value} (hB : Blk w F n t c) (hq : q + 60 ≤ n) (l : List Nat) (h : NumS O w (c (q + 8)) l) (i : Nat) (hi : i < 1000) (hl : l.length ≤ 100000) :
    Calls Hvah.prog 73 #[.pointer (some ⟨F, q, none⟩), .int .i64 i] w fun e w' => ∃ r, e = .returned r ∧ NV O w' r (l.reverse.getD i 0) ∧ Ext w w' := by
  have k8 := hB.cell (i := q + 8) (by omega)
  obtain ⟨o, cap, hv, hc1, hc2, hc3⟩ := h
  rw [hv] at k8
  by_cases hlt : i < l.length
  · obtain ⟨b, m, cc, rfl, hbb, hm, hnO, hrow⟩ := hc3 (fun q => by rw [q] at hlt; cases hlt)
    have hu := hrow (l.length - 1 - i) (by omega)
    have hc := hbb.cell (i := l.length - 1 - i) (by omega)
    have hbl := hbb.lt
    have e0 : l.reverse.getD i 0 = l[l.length - 1 - i] := by
      rw [List.getD_eq_getElem?_getD, List.getElem?_reverse hlt, List.getElem?_eq_getElem (by omega)]; rfl
    rw [e0]
    have i1 : ¬ (l.length : Int) ≤ i := by omega
    obtain ⟨j, hj⟩ : ∃ j, Hid (l.length - 1 - i = j) := ⟨_, rfl⟩
    generalize l[l.length - 1 - i] = z at *
    rw [hj.out] at hc hu
    have i2 : (l.length : Int) - 1 - i = j := by have := hj.out; omega
    have i3 : (j : Int) < l.length := by have := hj.out; omega
    clear hrow hc3
    generalize cc j = u at *
    go_enter Hvah.func73, Hvah.ntmps73
    go_wp2
    go_quiet (fail)
    go_wp2
    go_ret
    exact ⟨u, rfl, hu.ext ((Ext.refl _).drewN _), (Ext.refl _).drewN _⟩
  · have e0 : l.reverse.getD i 0 = 0 := by simp [List.getD, Nat.le_of_not_lt hlt]
    rw [e0]
    have i1 : (l.length : Int) ≤ i := by omega
    go_enter Hvah.func73, Hvah.ntmps73
    go_wp2
    go_ret
    exact ⟨_, rfl, ⟨[], NL.nil, rfl⟩, Ext.refl _⟩
theorem yArgF {O TM : Nat → Prop} {w : World} {F q n : Nat} {t : TypeId} {d : Nat → Value} {f : AFrame} (hF : Blk w F n t d) (hf : YFC O TM w d q f) (hq : q + 60 ≤ n) (hok : FOK f) (i : Nat) (hi : i < 1000) :
    Calls Hvah.prog 73 #[.pointer (some ⟨F, q, none⟩), .int .i64 i] w fun e w' => ∃ r, e = .returned r ∧ NV O w' r (f.arg i) ∧ Ext w w' := by
  have := yArgS hF hq f.stack.reverse hf.stack i hi (by simpa using Nat.le_trans hok.sLen (by decide))
  simpa [AFrame.arg] using this
/-- The memory as bytes. -/
theorem YFC.memNL {O TM : Nat → Prop} {w : World} {d : Nat → Value} {q : Nat} {f : AFrame} (h : YFC O TM w d q f) : NL (fun _ => False) w (d (q + 9)) f.mem := by
  rcases h.mem with ⟨h1, h2⟩ | ⟨b, cap, c, h1, h2, h3, h4, h5, h6⟩
  · rw [h1, h2]; exact NL.nil
  · refine ⟨_, cap, h1, h2, h.mcap _ _ _ h1, fun x hx => ?_, fun _ => ⟨b, 0, rfl, fun q => q, h4.lt, fun i hi => ?_⟩⟩
    · obtain ⟨i, hi, rfl⟩ := List.getElem_of_mem hx
      exact (h6 i hi).2
    · have := (h6 i hi).1
      rw [Nat.mul_one] at this
      rw [Nat.zero_add, h4.cell (by omega), this]
end Go.Proofs.YgvahwGreat
