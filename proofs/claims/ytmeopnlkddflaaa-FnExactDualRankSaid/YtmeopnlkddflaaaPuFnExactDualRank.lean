/-
  laws.FnExactDualRank, as a statement on numbers and lists. No condition but what every argument meets.
-/
import Derived.Test.YtmeopnlkddflaaaFx33
import Derived.Test.YtmeopnlkddflaaaLDualRank
import Derived.Test.YtmeopnlkddflaaaLCase
namespace Go.Proofs.Ytmeopnlkddflaaa.Pure
open Go.RowKit Go.Proofs.Ytmeopnlkddflaaa.F Go.Proofs.Ytmeopnlkddflaaa.L Go.Proofs.YtmeopnlkddflaaaW.PrintWords Go.Proofs.YtmeopnlkddflaaaW.PrintLast Go.Proofs.YtmeopnlkddflaaaW.PrintMore
theorem FnExactDualRank (n : Int) (l : List Int) (s : Int) (_ : (Lit.int .i64 n).wf = true) (hl : l.length * 8 ≤ 140737488351232) (_ : ∀ x ∈ l, (Lit.int .i64 x).wf = true) (_ : (Lit.int .i64 s).wf = true) :
    ∃ k, laws_FnExactDualRank.f k n l s = some true := by
  have h1 : l.length ≤ 17592186044416 := by omega
  refine Ev.rounds ?_
  unfold laws_FnExactDualRank.f
  obtain ⟨m, hm, hx⟩ := szMatroid n l h1
  simp only [hm, Option.bind_some]
  by_cases h : m < 0
  · simp only [h, if_true]; exact Ev.now _
  simp only [h, if_false]
  refine Ev.bind (toMatroid n l h1) (Ev.bind (DualRank_s n l s h1) (Ev.bind (toMatroid n l h1) (Ev.bind (DualRank_i n l s h1) ?_)))
  simp only [if_true]
  refine Ev.bind (toMatroid n l h1) (Ev.bind (eqMatroid n l h1) ?_)
  simp only [if_true]; exact Ev.now _
end Go.Proofs.Ytmeopnlkddflaaa.Pure
