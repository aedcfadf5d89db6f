/-
  laws.FnExactFromIndependent, as a statement on numbers and lists. No condition but what every argument meets.
-/
import Derived.Test.YteggmbhcnhbamaaFx44
import Derived.Test.YteggmbhcnhbamaaLFromIndep
import Derived.Test.YteggmbhcnhbamaaLCase
namespace Go.Proofs.Yteggmbhcnhbamaa.Pure
open Go.RowKit Go.Proofs.Yteggmbhcnhbamaa.F Go.Proofs.Yteggmbhcnhbamaa.L Go.Proofs.YteggmbhcnhbamaaW.PrintWords Go.Proofs.YteggmbhcnhbamaaW.PrintLast Go.Proofs.YteggmbhcnhbamaaW.PrintMore
set_option linter.unusedSimpArgs false
theorem FnExactFromIndependent (n : Int) (l : List Int) (_ : (Lit.int .i64 n).wf = true) (hl : l.length * 8 ≤ 140737488351232) (_ : ∀ x ∈ l, (Lit.int .i64 x).wf = true) :
    ∃ k, laws_FnExactFromIndependent.f k n l = some true := by
  have h1 : l.length ≤ 17592186044416 := by omega
  refine Ev.rounds ?_
  unfold laws_FnExactFromIndependent.f
  by_cases h : (l.length : Int) > 1048576
  · simp only [h, if_true]; exact Ev.now _
  simp only [h, if_false]
  have hi := FromIndependent_i n l h1
  have h2 := fromIndI_length n l
  refine Ev.bind (toIntS l h1) (Ev.bind (FromIndependent_s n l h1) (Ev.bind (toIntS l h1) (Ev.bind hi ?_)))
  generalize fromIndI n l = t at hi h2 ⊢
  obtain ⟨tn, tl, tb⟩ := t
  have he := eqMatroid tn tl h2
  have hh := heldMatroid tn tl.length h2
  have hx := eqIntS l l h1
  simp only [decide_true] at hx
  refine Ev.bind he ?_
  simp only [if_true, bne_self_eq_false]
  refine Ev.succ ?_
  simp only [laws_FnExactFromIndependent.j0, Bool.false_eq_true, if_false]
  refine Ev.bind (toIntS l h1) (Ev.bind hx ?_)
  simp only [if_true]
  refine Ev.bind (markIntS l 1 h1 (by omega) (by omega)) ?_
  simp only [show ¬ (1 + (l.length : Int) < 0) by omega, if_false]
  refine Ev.bind he ?_
  simp only [if_true, bne_self_eq_false]
  refine Ev.succ ?_
  simp only [laws_FnExactFromIndependent.j1, Bool.false_eq_true, if_false]
  refine Ev.bind (markMatroid tn tl h2) (Ev.bind hh ?_)
  simp only [show ¬ (1 + (tl.length : Int) < 0) by omega, if_false, if_true]
  refine Ev.bind (toIntS l h1) (Ev.bind hi (Ev.bind he ?_))
  simp only [if_true, bne_self_eq_false]
  refine Ev.succ ?_
  simp only [laws_FnExactFromIndependent.j2, Bool.false_eq_true, if_false]
  refine Ev.bind hh ?_
  simp only [show ¬ (1 + (tl.length : Int) < 0) by omega, if_false, if_true]
  exact Ev.now _
end Go.Proofs.Yteggmbhcnhbamaa.Pure
