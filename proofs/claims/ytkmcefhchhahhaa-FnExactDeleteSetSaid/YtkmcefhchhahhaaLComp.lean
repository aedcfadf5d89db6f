/-
  Complements of sets, as program and reference take them. Condition: sets of at most eight elements.
-/
import Derived.Test.YtkmcefhchhahhaaLMatroid
namespace Go.Proofs.Ytkmcefhchhahhaa.L
open Go.RowKit Go.Proofs.Ytkmcefhchhahhaa.F Go.Proofs.YtkmcefhchhahhaaW.PrintWords Go.Proofs.YtkmcefhchhahhaaW.PrintLast Go.Proofs.YtkmcefhchhahhaaW.PrintMore
open Go.Proofs.Ytkmcefhchhahhaa.Bits
open Go.Proofs.Ytkmcefhchhahhaa.Mt (sdiff full lt256)
theorem full_minus : ∀ N : Nat, N ≤ 8 → ∀ s : Nat, s < 256 → s < 2 ^ N → sdiff (full N) s + s = full N := by decide +kernel
theorem full256 {N : Nat} (hN : N ≤ 8) : full N < 256 := lt256 hN (Mt.full_lt N)
theorem comp_s {N S : Nat} (hN : N ≤ 8) (hS : S < 2 ^ N) : wrap64 (((full N : Nat) : Int) - (S : Int)) = ((sdiff (full N) S : Nat) : Int) := by
  have := full_minus N hN S (lt256 hN hS) hS
  have := full256 hN
  rw [wrap_in (by omega) (by omega)]; omega
theorem comp_i {N S : Nat} (hN : N ≤ 8) (hS : S < 2 ^ N) : Go.bits .andNot .i64 ((full N : Nat) : Int) (S : Int) = ((sdiff (full N) S : Nat) : Int) := by
  have := full256 hN
  have := lt256 hN hS
  exact bits_andNot _ _ (by omega) (by omega)
end Go.Proofs.Ytkmcefhchhahhaa.L
