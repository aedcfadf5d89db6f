/-
  laws.FnExactIsMatrix, as a statement on numbers and lists. No condition but what every argument meets.
-/
import Derived.Test.YtjfdmgjfhplglaaFx6
import Derived.Test.YtjfdmgjfhplglaaLMatrix
namespace Go.Proofs.Ytjfdmgjfhplglaa.Pure
open Go.RowKit Go.Proofs.Ytjfdmgjfhplglaa.F Go.Proofs.Ytjfdmgjfhplglaa.L Go.Proofs.YtjfdmgjfhplglaaW.PrintWords Go.Proofs.YtjfdmgjfhplglaaW.PrintLast Go.Proofs.YtjfdmgjfhplglaaW.PrintMore
theorem FnExactIsMatrix (p r c : Int) (l : List Int) (_ : (Lit.int .i64 p).wf = true) (_ : (Lit.int .i64 r).wf = true) (_ : (Lit.int .i64 c).wf = true) (hl : l.length * 8 ≤ 140737488351232) (_ : ∀ x ∈ l, (Lit.int .i64 x).wf = true) :
    ∃ k, laws_FnExactIsMatrix.f k p r c l = some true := by
  have hl' : l.length ≤ 17592186044416 := by omega
  refine Ev.rounds ?_
  unfold laws_FnExactIsMatrix.f
  obtain ⟨n, hn, _⟩ := szMatrix p r c l 1048576 hl' (by decide) (by decide)
  simp only [hn, Option.bind_some]
  by_cases h : n < 0
  · simp only [h, if_true]; exact Ev.now _
  simp only [h, if_false]
  refine Ev.bind (toMatrix p r c l hl') (Ev.bind (IsMatrix_s p r c l) (Ev.bind (toMatrix p r c l hl') (Ev.bind (IsMatrix_i p r c l) ?_)))
  simp only [bne_self_eq_false, Bool.false_eq_true, if_false]
  refine Ev.bind (toMatrix p r c l hl') (Ev.bind (eqMatrix p r c l p r c l hl') ?_)
  simp only [decide_true, if_true]
  exact Ev.now _
end Go.Proofs.Ytjfdmgjfhplglaa.Pure
