/-
  laws.FnExactComponentsOf, as a statement on numbers and lists. No condition but what every argument meets.
-/
import Derived.Test.YteggmbhcnhbamaaFx49
import Derived.Test.YteggmbhcnhbamaaLComponents
import Derived.Test.YteggmbhcnhbamaaLCase
namespace Go.Proofs.Yteggmbhcnhbamaa.Pure
open Go.RowKit Go.Proofs.Yteggmbhcnhbamaa.F Go.Proofs.Yteggmbhcnhbamaa.L Go.Proofs.YteggmbhcnhbamaaW.PrintWords Go.Proofs.YteggmbhcnhbamaaW.PrintLast Go.Proofs.YteggmbhcnhbamaaW.PrintMore
set_option linter.unusedSimpArgs false
theorem FnExactComponentsOf (n : Int) (l : List Int) (_ : (Lit.int .i64 n).wf = true) (hl : l.length * 8 ≤ 140737488351232) (_ : ∀ x ∈ l, (Lit.int .i64 x).wf = true) :
    ∃ k, laws_FnExactComponentsOf.f k n l = some true := by
  have h1 : l.length ≤ 17592186044416 := by omega
  refine Ev.rounds ?_
  unfold laws_FnExactComponentsOf.f
  obtain ⟨m, hm, hx⟩ := szMatroid n l h1
  simp only [hm, Option.bind_some]
  by_cases h : m < 0
  · simp only [h, if_true]; exact Ev.now _
  simp only [h, if_false]
  have hi := ComponentsOf_i n l h1
  have h2 := compI_length n l
  refine Ev.bind (toMatroid n l h1) (Ev.bind (ComponentsOf_s n l h1) (Ev.bind (toMatroid n l h1) (Ev.bind hi ?_)))
  generalize compI n l = t at hi h2 ⊢
  have he := eqIntS t t h2
  simp only [decide_true] at he
  have hh := heldIntS t.length 1 h2 (by omega) (by omega)
  refine Ev.bind he ?_
  simp only [if_true]
  refine Ev.bind (toMatroid n l h1) (Ev.bind (eqMatroid n l h1) ?_)
  simp only [if_true]
  refine Ev.bind (markMatroid n l h1) ?_
  simp only [show ¬ (1 + (l.length : Int) < 0) by omega, if_false]
  refine Ev.bind he ?_
  refine Ev.succ ?_
  simp only [laws_FnExactComponentsOf.j0, Bool.not_true, Bool.false_eq_true, if_false]
  refine Ev.bind (markIntS t 1 h2 (by omega) (by omega)) (Ev.bind hh ?_)
  simp only [show ¬ (1 + (t.length : Int) < 0) by omega, if_false, if_true]
  refine Ev.bind (toMatroid n l h1) (Ev.bind hi (Ev.bind he ?_))
  simp only [if_true]
  refine Ev.bind hh ?_
  simp only [show ¬ (1 + (t.length : Int) < 0) by omega, if_false, if_true]
  exact Ev.now _
end Go.Proofs.Yteggmbhcnhbamaa.Pure
