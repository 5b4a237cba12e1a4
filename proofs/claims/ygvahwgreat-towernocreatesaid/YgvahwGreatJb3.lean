import Derived.Test.YgvahwGreatJb4
namespace Go.Proofs.YgvahwGreat
/-! No function of the program leads back to itself: each has a rank above the ranks of all that it names. -/
/-- The ranks, five bits a function. -/
def rkN : Nat := 235764468932216068067540308312652323796238000369679194463253298388305864966824901665509696327486853101500066196952528959810091484296362093198041005554848790563264322076661126192569720064505582463862822643366165736743592527832818273232552099875774368212520742796615400724429104612789330182094422585312864644446843714381792859813925114092942109158485255146564757497297290136728264959307995311081964441360468466363697786145945711823046717147693820676892053853513532886960869222223406989227365680878481119714879283945568484378762180965082495947577969432277974292176216707835326627672965333926422543483906842107631093312664324224228430864280911618589688805554456870141804478539803073923402762273
def rk (g : Nat) : Nat := rkN / 32 ^ g % 32
theorem via_rank {P : Program} {r : Nat → Nat} (hr : ∀ g h, h ∈ (P.funcs[g]?).elim [] P.leadsTo → r h < r g) : ∀ (n : Nat) (todo seen : List FuncId) (k : Nat), (∀ x ∈ todo, r x ≤ k) → (∀ x ∈ seen, r x ≤ k) → ∀ y ∈ P.closureVia n todo seen, r y ≤ k := by
  intro n
  induction n with
  | zero =>
    intro todo seen k _ h2 y hy
    unfold Program.closureVia at hy
    exact h2 y (List.mem_reverse.1 hy)
  | succ n ih =>
    intro todo seen k h1 h2 y hy
    cases todo with
    | nil =>
      unfold Program.closureVia at hy
      exact h2 y (List.mem_reverse.1 hy)
    | cons f todo =>
      unfold Program.closureVia at hy
      have hf : r f ≤ k := h1 f (List.mem_cons_self ..)
      split at hy
      · exact ih todo seen k (fun x hx => h1 x (List.mem_cons_of_mem _ hx)) h2 y hy
      · refine ih _ (f :: seen) k (fun x hx => ?_) (fun x hx => ?_) y hy
        · rcases List.mem_append.1 hx with q | q
          · exact Nat.le_trans (Nat.le_of_lt (hr f x q)) hf
          · exact h1 x (List.mem_cons_of_mem _ q)
        · rcases List.mem_cons.1 hx with rfl | q
          · exact hf
          · exact h2 x q
theorem funcs_size : Hvah.prog.funcs.size = 459 := by kernel_rfl
theorem rk_all : ((List.range 459).all fun g => ((Hvah.prog.funcs[g]?).elim [] Hvah.prog.leadsTo).all fun h => Nat.blt (rk h) (rk g)) = true := by kernel_rfl
theorem rk_lt (g h : Nat) (hh : h ∈ (Hvah.prog.funcs[g]?).elim [] Hvah.prog.leadsTo) : rk h < rk g := by
  by_cases hg : g < 459
  · exact Nat.blt_eq.mp (List.all_eq_true.1 (List.all_eq_true.1 rk_all g (List.mem_range.2 hg)) h hh)
  · rw [Array.getElem?_eq_none (by rw [funcs_size]; omega)] at hh
    exact absurd hh List.not_mem_nil
theorem no_recurse : Hvah.prog.recurses 3 = false := by
  have hu : Hvah.prog.unfollowed 3 = false := by
    have := jf11
    rw [beq_iff_eq] at this
    exact this.symm
  unfold Program.recurses
  rw [hu, Bool.false_or]
  refine List.any_eq_false.2 (fun g _ => ?_)
  rw [Bool.not_eq_true]
  refine List.any_eq_false.2 (fun h hh q => ?_)
  have h1 := rk_lt g h hh
  have h2 : rk g ≤ rk h := via_rank rk_lt _ [h] [] (rk h) (fun x hx => by rw [List.mem_singleton.1 hx]; exact Nat.le_refl _) (fun x hx => absurd hx List.not_mem_nil) g (List.contains_iff_mem.1 q)
  omega
theorem jf12 : (Rows.towerNoCreateRow.recurses == Hvah.prog.recurses 3) = true := by rw [no_recurse]; rfl
end Go.Proofs.YgvahwGreat
