/-
  Is a matroid its own dual: of program and reference the same. Condition: lists of at most 2^44 elements.
-/
import Derived.Test.YtkmcefhchhahhaaFx22
import Derived.Test.YtkmcefhchhahhaaFx29
import Derived.Test.YtkmcefhchhahhaaLDualOf
import Derived.Test.YtkmcefhchhahhaaLEqM
namespace Go.Proofs.Ytkmcefhchhahhaa.L
open Go.RowKit Go.Proofs.Ytkmcefhchhahhaa.F Go.Proofs.YtkmcefhchhahhaaW.PrintWords Go.Proofs.YtkmcefhchhahhaaW.PrintLast Go.Proofs.YtkmcefhchhahhaaW.PrintMore
open Go.Proofs.Ytkmcefhchhahhaa.Bits
def selfDualI (n : Int) (l : List Int) : Bool := isMatroid n l && eqM n l (dualI n l).1 (dualI n l).2
theorem IsSelfDual_s (n : Int) (l : List Int) (hl : l.length ≤ 17592186044416) : Ev (fun k => spec_IsSelfDual.f k n l) (selfDualI n l) := by
  unfold spec_IsSelfDual.f selfDualI
  refine Ev.bind (IsMatroid_s n l hl) ?_
  cases h : isMatroid n l
  · simp only [Bool.false_eq_true, if_false, Bool.false_and]; exact Ev.now _
  simp only [if_true, Bool.true_and]
  exact Ev.bind (DualOf_s n l hl) (Ev.bind (EqualMatroid_s n l _ _ hl) (Ev.now _))
theorem IsSelfDual_i (n : Int) (l : List Int) (hl : l.length ≤ 17592186044416) : Ev (fun k => impl_IsSelfDual.f k n l) (selfDualI n l) := by
  unfold impl_IsSelfDual.f selfDualI
  refine Ev.bind (IsMatroid_i n l hl) ?_
  cases h : isMatroid n l
  · simp only [Bool.false_eq_true, if_false, Bool.false_and]; exact Ev.now _
  simp only [if_true, Bool.true_and]
  exact Ev.bind (DualOf_i n l hl) (Ev.bind (EqualMatroid_i n l _ _ hl) (Ev.now _))
end Go.Proofs.Ytkmcefhchhahhaa.L
