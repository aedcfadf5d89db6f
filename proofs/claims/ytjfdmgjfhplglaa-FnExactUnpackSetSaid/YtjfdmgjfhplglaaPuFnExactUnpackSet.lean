/-
  laws.FnExactUnpackSet, as a statement on numbers: both functions answer the same, at all pairs of whole numbers. No condition.
-/
import Derived.Test.YtjfdmgjfhplglaaFx3
import Derived.Test.YtjfdmgjfhplglaaLSets
namespace Go.Proofs.Ytjfdmgjfhplglaa.Pure
open Go.RowKit Go.Proofs.Ytjfdmgjfhplglaa.F Go.Proofs.Ytjfdmgjfhplglaa.L Go.Proofs.YtjfdmgjfhplglaaW.PrintWords Go.Proofs.YtjfdmgjfhplglaaW.PrintLast Go.Proofs.YtjfdmgjfhplglaaW.PrintMore
theorem FnExactUnpackSet (s keep : Int) (_ : (Lit.int .i64 s).wf = true) (_ : (Lit.int .i64 keep).wf = true) : ∃ k, laws_FnExactUnpackSet.f k s keep = some true := by
  refine Ev.rounds ?_
  unfold laws_FnExactUnpackSet.f
  refine Ev.bind (UnpackSet_s s keep) (Ev.bind (UnpackSet_i s keep) ?_)
  simp only [if_true]
  exact Ev.now _
end Go.Proofs.Ytjfdmgjfhplglaa.Pure
