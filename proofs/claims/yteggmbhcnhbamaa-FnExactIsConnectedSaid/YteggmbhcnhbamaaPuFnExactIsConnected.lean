/-
  laws.FnExactIsConnected, as a statement on numbers and lists. No condition but what every argument meets.
-/
import Derived.Test.YteggmbhcnhbamaaFx48
import Derived.Test.YteggmbhcnhbamaaLComponents
import Derived.Test.YteggmbhcnhbamaaLCase
namespace Go.Proofs.Yteggmbhcnhbamaa.Pure
open Go.RowKit Go.Proofs.Yteggmbhcnhbamaa.F Go.Proofs.Yteggmbhcnhbamaa.L Go.Proofs.YteggmbhcnhbamaaW.PrintWords Go.Proofs.YteggmbhcnhbamaaW.PrintLast Go.Proofs.YteggmbhcnhbamaaW.PrintMore
set_option linter.unusedSimpArgs false
theorem FnExactIsConnected (n : Int) (l : List Int) (_ : (Lit.int .i64 n).wf = true) (hl : l.length * 8 ≤ 140737488351232) (_ : ∀ x ∈ l, (Lit.int .i64 x).wf = true) :
    ∃ k, laws_FnExactIsConnected.f k n l = some true := by
  have h1 : l.length ≤ 17592186044416 := by omega
  refine Ev.rounds ?_
  unfold laws_FnExactIsConnected.f
  obtain ⟨m, hm, hx⟩ := szMatroid n l h1
  simp only [hm, Option.bind_some]
  by_cases h : m < 0
  · simp only [h, if_true]; exact Ev.now _
  simp only [h, if_false]
  refine Ev.bind (toMatroid n l h1) (Ev.bind (IsConnected_s n l h1) (Ev.bind (toMatroid n l h1) (Ev.bind (IsConnected_i n l h1) ?_)))
  simp only [bne_self_eq_false, Bool.false_eq_true, if_false]
  refine Ev.bind (toMatroid n l h1) (Ev.bind (eqMatroid n l h1) ?_)
  simp only [if_true]
  exact Ev.now _
end Go.Proofs.Yteggmbhcnhbamaa.Pure
