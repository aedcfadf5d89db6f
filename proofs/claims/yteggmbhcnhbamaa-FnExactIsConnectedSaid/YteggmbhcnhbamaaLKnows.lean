/-
  A matroid and a set of its elements? Condition: lists of at most 2^44 elements.
-/
import Derived.Test.YteggmbhcnhbamaaFx24
import Derived.Test.YteggmbhcnhbamaaLMatroid
namespace Go.Proofs.Yteggmbhcnhbamaa.L
open Go.RowKit Go.Proofs.Yteggmbhcnhbamaa.F Go.Proofs.YteggmbhcnhbamaaW.PrintWords Go.Proofs.YteggmbhcnhbamaaW.PrintLast Go.Proofs.YteggmbhcnhbamaaW.PrintMore
open Go.Proofs.Yteggmbhcnhbamaa.Bits
theorem set_nat {N : Nat} {s : Int} (h : isSetB (N : Int) s = true) : ∃ S : Nat, s = S ∧ S < 2 ^ N := by
  simp only [isSetB, decide_eq_true_eq, Int.toNat_natCast] at h
  obtain ⟨S, rfl⟩ := Int.eq_ofNat_of_zero_le h.2.2.1
  refine ⟨S, rfl, ?_⟩
  have e : (2 : Int) ^ N = ((2 ^ N : Nat) : Int) := by simp
  rw [e] at h; omega
theorem knows_i (n : Int) (l : List Int) (s : Int) (hl : l.length ≤ 17592186044416) : Ev (fun k => impl_knows.f k n l s) (isMatroid n l && isSetB n s) := by
  unfold impl_knows.f
  refine Ev.bind (IsMatroid_i n l hl) ?_
  cases h : isMatroid n l
  · simp only [Bool.false_eq_true, if_false, Bool.false_and]; exact Ev.now _
  simp only [if_true, IsSet_i, Option.bind_some, Bool.true_and]
  exact Ev.now _
end Go.Proofs.Yteggmbhcnhbamaa.L
