/-
  laws.FnExactRestrictTo, as a statement on numbers and lists. No condition but what every argument meets.
-/
import Derived.Test.YtkmcefhchhahhaaFx32
import Derived.Test.YtkmcefhchhahhaaLMinorOf
import Derived.Test.YtkmcefhchhahhaaLCase
namespace Go.Proofs.Ytkmcefhchhahhaa.Pure
open Go.RowKit Go.Proofs.Ytkmcefhchhahhaa.F Go.Proofs.Ytkmcefhchhahhaa.L Go.Proofs.YtkmcefhchhahhaaW.PrintWords Go.Proofs.YtkmcefhchhahhaaW.PrintLast Go.Proofs.YtkmcefhchhahhaaW.PrintMore
set_option linter.unusedSimpArgs false
theorem FnExactRestrictTo (n : Int) (l : List Int) (s : Int) (_ : (Lit.int .i64 n).wf = true) (hl : l.length * 8 ≤ 140737488351232) (_ : ∀ x ∈ l, (Lit.int .i64 x).wf = true) (_ : (Lit.int .i64 s).wf = true) :
    ∃ k, laws_FnExactRestrictTo.f k n l s = some true := by
  have h1 : l.length ≤ 17592186044416 := by omega
  refine Ev.rounds ?_
  unfold laws_FnExactRestrictTo.f
  obtain ⟨m, hm, hx⟩ := szMatroid n l h1
  simp only [hm, Option.bind_some]
  by_cases h : m < 0
  · simp only [h, if_true]; exact Ev.now _
  simp only [h, if_false]
  have hi := RestrictTo_i n l s h1
  have h2 := restrictI_length n l s
  refine Ev.bind (toMatroid n l h1) (Ev.bind (RestrictTo_s n l s h1) (Ev.bind (toMatroid n l h1) (Ev.bind hi ?_)))
  generalize restrictI n l s = t at hi h2 ⊢
  obtain ⟨tn, tl⟩ := t
  have he := eqMatroid tn tl h2
  have hh := heldMatroid tn tl.length h2
  refine Ev.bind he ?_
  simp only [if_true]
  refine Ev.bind (toMatroid n l h1) (Ev.bind (eqMatroid n l h1) ?_)
  simp only [if_true]
  refine Ev.bind (markMatroid n l h1) ?_
  simp only [show ¬ (1 + (l.length : Int) < 0) by omega, if_false]
  refine Ev.bind he ?_
  refine Ev.succ ?_
  simp only [laws_FnExactRestrictTo.j0, Bool.not_true, Bool.false_eq_true, if_false]
  refine Ev.bind (markMatroid tn tl h2) (Ev.bind hh ?_)
  simp only [show ¬ (1 + (tl.length : Int) < 0) by omega, if_false, if_true]
  refine Ev.bind (toMatroid n l h1) (Ev.bind hi (Ev.bind he ?_))
  simp only [if_true]
  refine Ev.bind hh ?_
  simp only [show ¬ (1 + (tl.length : Int) < 0) by omega, if_false, if_true]
  exact Ev.now _
end Go.Proofs.Ytkmcefhchhahhaa.Pure
