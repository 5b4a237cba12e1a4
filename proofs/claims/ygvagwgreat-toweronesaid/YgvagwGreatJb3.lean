import Derived.Test.YgvagwGreatJb4
namespace Go.Proofs.YgvagwGreat
/-! No function of the program leads back to itself: each has a rank above the ranks of all that it names. -/
/-- The ranks, five bits a function. -/
def rkN : Nat := 214426535360158657629235957131324834150507740896208992547374963022144461289667471342463337648484278453452194477861238701561971069437606359495513066171814708071237257242192869118816561298904691706286778429208575959586225988307722466954648643764607521200123976811133071100293004394906647741749495785655076037480142726400838782696087140805450061778615468162174472579224393609118364983540227795931027177503409317399653251546574858205573688926682571652138043512889937926011834153744900494736944602553631848163494654677896036790809540402808575843280750116062312638110794712552275657487050607903653856639384302849421399257640320032697088011355062792636970604523380954280561498536871969
def rk (g : Nat) : Nat := rkN / 32 ^ g % 32
theorem via_rank {P : Program} {r : Nat → Nat} (hr : ∀ g h, h ∈ (P.funcs[g]?).elim [] P.leadsTo → r h < r g) : ∀ (n : Nat) (todo seen : List FuncId) (k : Nat), (∀ x ∈ todo, r x ≤ k) → (∀ x ∈ seen, r x ≤ k) → ∀ y ∈ P.closureVia n todo seen, r y ≤ k := by
  intro n
  induction n with
  | zero =>
    intro todo seen k _ h2 y hy
    unfold Program.closureVia at hy
    exact h2 y (List.mem_reverse.1 hy)
  | succ n ih =>
    intro todo seen k h1 h2 y hy
    cases todo with
    | nil =>
      unfold Program.closureVia at hy
      exact h2 y (List.mem_reverse.1 hy)
    | cons f todo =>
      unfold Program.closureVia at hy
      have hf : r f ≤ k := h1 f (List.mem_cons_self ..)
      split at hy
      · exact ih todo seen k (fun x hx => h1 x (List.mem_cons_of_mem _ hx)) h2 y hy
      · refine ih _ (f :: seen) k (fun x hx => ?_) (fun x hx => ?_) y hy
        · rcases List.mem_append.1 hx with q | q
          · exact Nat.le_trans (Nat.le_of_lt (hr f x q)) hf
          · exact h1 x (List.mem_cons_of_mem _ q)
        · rcases List.mem_cons.1 hx with rfl | q
          · exact hf
          · exact h2 x q
theorem funcs_size : Hvag.prog.funcs.size = 451 := by kernel_rfl
theorem rk_all : ((List.range 451).all fun g => ((Hvag.prog.funcs[g]?).elim [] Hvag.prog.leadsTo).all fun h => Nat.blt (rk h) (rk g)) = true := by kernel_rfl
theorem rk_lt (g h : Nat) (hh : h ∈ (Hvag.prog.funcs[g]?).elim [] Hvag.prog.leadsTo) : rk h < rk g := by
  by_cases hg : g < 451
  · exact Nat.blt_eq.mp (List.all_eq_true.1 (List.all_eq_true.1 rk_all g (List.mem_range.2 hg)) h hh)
  · rw [Array.getElem?_eq_none (by rw [funcs_size]; omega)] at hh
    exact absurd hh List.not_mem_nil
theorem no_recurse : Hvag.prog.recurses 3 = false := by
  have hu : Hvag.prog.unfollowed 3 = false := by
    have := jf11
    rw [beq_iff_eq] at this
    exact this.symm
  unfold Program.recurses
  rw [hu, Bool.false_or]
  refine List.any_eq_false.2 (fun g _ => ?_)
  rw [Bool.not_eq_true]
  refine List.any_eq_false.2 (fun h hh q => ?_)
  have h1 := rk_lt g h hh
  have h2 : rk g ≤ rk h := via_rank rk_lt _ [h] [] (rk h) (fun x hx => by rw [List.mem_singleton.1 hx]; exact Nat.le_refl _) (fun x hx => absurd hx List.not_mem_nil) g (List.contains_iff_mem.1 q)
  omega
theorem jf12 : (Rows.towerOneRow.recurses == Hvag.prog.recurses 3) = true := by rw [no_recurse]; rfl
end Go.Proofs.YgvagwGreat
