import Derived.Test.YgvahwGreatMemA
import Derived.Test.YgvahwGreatVaultJ
namespace Go.Proofs.YgvahwGreat
open Go.RowKit

theorem BaseL.at_ {c : Nat → Value} : ∀ {ms : List (List Nat)}, BaseL c ms → c (2 + ms.length) = .int .u32 ((lowB ms).length : Nat)
  | [], h => h
  | _ :: _, h => h.1
/-- What the arena gives of its top memory. -/
structure TopM (own : Nat → Nat) (w : World) (c : Nat → Value) (m lo hi n cap b : Nat) (o : Option Addr) (cc : Nat → Value) (l : List Nat) : Prop where
  hm : m < 7
  k10 : c 10 = .int .u8 (m + 1 : Nat)
  klo : c (2 + m) = .int .u32 lo
  khi : c (2 + (m + 1)) = .int .u32 hi
  k1 : c 1 = .slice o n cap
  ho : (o = none ∧ n = 0 ∧ cap = 0) ∨ o = some ⟨b, 0, none⟩
  h1 : lo ≤ hi
  h2 : hi ≤ n
  hn : n ≤ cap
  hcap : n ≤ 5020960
  blk : 0 < n → own b = 7 ∧ Blk w b cap 5 cc ∧ ∀ i (h : i < l.length), cc i = .int .u8 (l[i] : Nat)
  len : l.length = n
  lt : ∀ x ∈ l, x < 256
theorem MemC.open_ {own : Nat → Nat} {w : World} {c : Nat → Value} {mm : List Nat} {ms : List (List Nat)} {stale : List Nat} (h : MemC own w c (mm :: ms) stale) :
    ∃ cap b o cc, TopM own w c ms.length (lowB ms).length ((lowB ms).length + mm.length) (lowB (mm :: ms) ++ stale).length cap b o cc (lowB (mm :: ms) ++ stale) := by
  have hfew := h.few
  have hb := h.base
  have hst := h.stl
  have hlen : (lowB (mm :: ms)).length = (lowB ms).length + mm.length := by simp [lowB]
  have k10 := h.top
  have khi := hb.1
  rw [hlen] at khi
  have hle : (lowB ms).length + mm.length ≤ (lowB (mm :: ms) ++ stale).length := by rw [List.length_append, hlen]; omega
  rcases h.buf with ⟨e1, e2⟩ | ⟨b, cap, cc, q1, q2, q3, q4, q5, q6⟩
  · have e0 : (lowB (mm :: ms) ++ stale).length = 0 := by rw [e1]; rfl
    refine ⟨0, 0, none, fun _ => undef, by simp at hfew; omega, k10, hb.2.at_, khi, by rw [e2, e0], Or.inl ⟨rfl, e0, rfl⟩, by omega, hle, by omega, by omega, fun hp => absurd hp (by omega), rfl, fun x hx => by rw [e1] at hx; cases hx⟩
  · refine ⟨cap, b, some ⟨b, 0, none⟩, cc, by simp at hfew; omega, k10, hb.2.at_, khi, q1, Or.inr rfl, by omega, hle, q2, hst, fun _ => ⟨q5, by rw [Nat.mul_one] at q4; exact q4, fun i hi => by have := (q6 i hi).1; rw [Nat.mul_one] at this; exact this⟩, rfl, fun x hx => ?_⟩
    obtain ⟨i, hi, rfl⟩ := List.getElem_of_mem hx
    exact (q6 i hi).2
theorem run_make_bytesK (w : World) (t : TypeId) (ht : Hvah.prog.underlying t = some (.slice 5)) (kl kc : IntKind) (n : Nat) (hn : n ≤ 140737488355328) :
    (Instr.makeSlice t (.int kl (n : Int)) (.int kc (n : Int))).run Hvah.prog w = .ok (.slice (some ⟨w.heap.size, 0, none⟩) n n) (w.alloc (.cells (zrow n) 5)) := by
  have hb : (Hvah.t5.bytes : Int) * n ≤ 281474976710656 := by rw [u8bytes]; omega
  rw [run_make (P := Hvah.prog) w t 5 Hvah.t5 (.int .u8 0) ht u8info u8zero kl kc n n (by omega) (Int.le_refl _) hb (by omega)]
  rw [u8size, Nat.mul_one, show (Value.int .u8 0).cells = #[.int .u8 0] from rfl, madeCells_zrow]
  simp
section
variable {ops : Array Oper} {rest : List Oper} {a : Act} {Q : Exit → Act → World → Prop} {w : World} {dst : Option Tmp} {ty : TypeId} {pos : String} {aft : Array Edge}
theorem wl_make_bytesK {t : TypeId} {l c : Operand} (ht : Hvah.prog.underlying t = some (.slice 5)) (kl kc : IntKind) (n : Nat) (hl : a.eval l = .int kl (n : Int)) (hc : a.eval c = .int kc (n : Int)) (hn : n ≤ 140737488355328)
    (h : wpList Hvah.prog ops Q rest (a.put dst (.slice (some ⟨w.heap.size, 0, none⟩) n n)) (w.alloc (.cells (zrow n) 5))) :
    wpList Hvah.prog ops Q (⟨dst, .makeSlice t l c, ty, pos, aft, none⟩ :: rest) a w := by
  refine wpList_plain rfl fun K hK => ?_
  unfold Oper.wp
  simp [execOp, hl, hc, run_make_bytesK w t ht kl kc n hn, Result.andThen]
  exact hK _ _ h
end
section
variable {own : Nat → Nat} {w : World} {g m lo hi n cap b off k : Nat} {o : Option Addr} {c cc : Nat → Value} {l : List Nat}
theorem TopM.ext {w' : World} (h : TopM own w c m lo hi n cap b o cc l) (e : Ext w w') : TopM own w' c m lo hi n cap b o cc l :=
  ⟨h.hm, h.k10, h.klo, h.khi, h.k1, h.ho, h.h1, h.h2, h.hn, h.hcap, fun hp => ⟨(h.blk hp).1, (h.blk hp).2.1.ext e, (h.blk hp).2.2⟩, h.len, h.lt⟩
theorem tPart (h : TopM own w c m lo hi n cap b o cc l) (hB : Blk w g 27024 105 c) (hk : 0 < k) (hfit : off + k ≤ hi - lo) :
    Calls Hvah.prog 367 #[.pointer (some ⟨g, 1, none⟩), .int .u32 off, .int .u32 k] w fun e w' => e = .returned (.tuple #[.slice (some ⟨b, lo + off, none⟩) k k, .bool true]) ∧ Ext w w' :=
  aPart g m lo hi n cap b off k o c w hB h.hm h.k10 h.klo h.khi h.k1 h.ho h.h1 h.h2 h.hn h.hcap hk hfit
theorem tLen (h : TopM own w c m lo hi n cap b o cc l) (hB : Blk w g 27024 105 c) :
    Calls Hvah.prog 277 #[.pointer (some ⟨g, 1, none⟩)] w fun e w' => e = .returned (.int .u32 (hi - lo : Nat)) ∧ Ext w w' :=
  aLen g m lo hi n cap b o c w hB h.hm h.k10 h.klo h.khi h.k1 h.ho h.h1 h.h2 h.hn h.hcap
theorem TopM.bs (h : TopM own w c m lo hi n cap b o cc l) (hk : 0 < k) (hfit : off + k ≤ hi - lo) : BS (fun _ => False) w (some ⟨b, lo + off, none⟩) ((l.drop (lo + off)).take k) := by
  have hn2 := h.h2
  have hlen := h.len
  obtain ⟨_, hb, hc⟩ := h.blk (by omega)
  refine ⟨fun d hd => h.lt d (List.mem_of_mem_drop (List.mem_of_mem_take hd)), fun _ => ⟨b, lo + off, rfl, fun q => q, hb.lt, fun i hi => ?_⟩⟩
  have hi2 : lo + off + i < l.length := by simp at hi; omega
  have hcn := h.hn
  rw [hb.cell (by omega), hc _ hi2]
  simp
/-- Read. -/
theorem tRead (h : TopM own w c m lo hi n cap b o cc l) (hB : Blk w g 27024 105 c) (hO : Small (Mu own) w) (hk : 0 < k) (hfit : off + k ≤ hi - lo) :
    Calls Hvah.prog 390 #[.pointer (some ⟨g, 1, none⟩), .int .u32 off, .int .u32 k] w fun e w' => ∃ r, e = .returned r ∧ NL (Mu own) w' r ((l.drop (lo + off)).take k) ∧ Ext w w' := by
  have HP := tPart h hB hk hfit
  have HBS := h.bs hk hfit
  have hll : ((l.drop (lo + off)).take k).length = k := by have := h.h2; have := h.len; simp; omega
  have hne : (l.drop (lo + off)).take k ≠ [] := fun q => by rw [q] at hll; simp at hll; omega
  have hkl : k ≤ 140737488355328 := by have := h.hcap; have := h.h2; omega
  have hki : ((k : Int) == 0) = false := by simp; omega
  have hd := HBS.lt
  generalize (l.drop (lo + off)).take k = L at *
  generalize lo + off = q at *
  subst hll
  go_enter Hvah.func390, Hvah.ntmps390
  go_wp2_with (first
    | (go_at_call 367; refine HP.mono ?_; rintro e w1 ⟨rfl, he⟩)
    | (at_make; refine wl_make_bytesK Hvah.underlying23 .u32 .u32 L.length rfl rfl hkl ?_)
    | ((with_reducible (refine Veil.out ?_; apply wl_copy_bytes Hvah.underlying23 (L := List.replicate L.length 0) (t := 5) (l := L))); (case hd => rfl); (case hs => rfl); (case hg => exact heap_new _ _); (case hl => simp); (case hsrc => exact ((HBS.ext he).ext ((Ext.refl _).alloc _ _)).src hne); (case hfit => simp)))
  go_ret
  have hs := he.size
  refine ⟨_, rfl, ?_, he.trans (((Ext.refl _).alloc _ _).setRow (Nat.le_refl _) _)⟩
  refine NL.row (t := 5) ?_ hd (fun hx => Nat.lt_irrefl _ (Nat.lt_of_lt_of_le (hO _ hx) hs)) rfl hkl
  rw [setRow_heap _ _ _ _ _ _ (heap_new _ _)]
end
end Go.Proofs.YgvahwGreat
