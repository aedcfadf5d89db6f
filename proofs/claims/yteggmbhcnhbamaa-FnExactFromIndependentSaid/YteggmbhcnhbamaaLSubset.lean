/-
  Is one set within another? Condition: sets of eight elements.
-/
import Derived.Test.YteggmbhcnhbamaaFx2
import Derived.Test.YteggmbhcnhbamaaLSets
import Derived.Test.YteggmbhcnhbamaaMat
namespace Go.Proofs.Yteggmbhcnhbamaa.L
open Go.RowKit Go.Proofs.Yteggmbhcnhbamaa.F Go.Proofs.YteggmbhcnhbamaaW.PrintWords Go.Proofs.YteggmbhcnhbamaaW.PrintLast Go.Proofs.YteggmbhcnhbamaaW.PrintMore
open Go.Proofs.Yteggmbhcnhbamaa.Bits
open Go.Proofs.Yteggmbhcnhbamaa.Mt (sub_iff_and sub_iff_sdiff)
theorem isAny_nat {a : Nat} (ha : a < 256) : isAny (a : Int) = true := by simp [isAny]; omega
theorem IsSubset_i {a b : Nat} (ha : a < 256) (hb : b < 256) : impl_IsSubset.f (a : Int) (b : Int) = some (decide (a &&& b = a)) := by
  unfold impl_IsSubset.f
  rw [isAny_i, isAny_i]
  simp only [isAny_nat ha, isAny_nat hb, Option.bind_some, if_true, bits_andNot a b (by omega) (by omega)]
  rw [Option.some.injEq, Bool.eq_iff_iff, beq_iff_eq, decide_eq_true_eq, ← sub_iff_and, sub_iff_sdiff]
  omega
end Go.Proofs.Yteggmbhcnhbamaa.L
