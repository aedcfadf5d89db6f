/-
  laws.FnExactPackSet, as a statement on numbers: both functions answer the same, at all pairs of whole numbers. No condition.
-/
import Derived.Test.YtjfdmgjfhplglaaFx2
import Derived.Test.YtjfdmgjfhplglaaLSets
namespace Go.Proofs.Ytjfdmgjfhplglaa.Pure
open Go.RowKit Go.Proofs.Ytjfdmgjfhplglaa.F Go.Proofs.Ytjfdmgjfhplglaa.L Go.Proofs.YtjfdmgjfhplglaaW.PrintWords Go.Proofs.YtjfdmgjfhplglaaW.PrintLast Go.Proofs.YtjfdmgjfhplglaaW.PrintMore
theorem FnExactPackSet (s keep : Int) (_ : (Lit.int .i64 s).wf = true) (_ : (Lit.int .i64 keep).wf = true) : ∃ k, laws_FnExactPackSet.f k s keep = some true := by
  refine Ev.rounds ?_
  unfold laws_FnExactPackSet.f
  refine Ev.bind (PackSet_s s keep) (Ev.bind (PackSet_i s keep) ?_)
  simp only [if_true]
  exact Ev.now _
end Go.Proofs.Ytjfdmgjfhplglaa.Pure
