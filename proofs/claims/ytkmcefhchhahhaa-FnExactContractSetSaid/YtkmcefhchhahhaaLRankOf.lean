/-
  The rank of a set of a matroid's elements, as the reference says it. Condition: lists of at most 2^44 elements.
-/
import Derived.Test.YtkmcefhchhahhaaFx8
import Derived.Test.YtkmcefhchhahhaaLRank
import Derived.Test.YtkmcefhchhahhaaLKnows
namespace Go.Proofs.Ytkmcefhchhahhaa.L
open Go.RowKit Go.Proofs.Ytkmcefhchhahhaa.F Go.Proofs.YtkmcefhchhahhaaW.PrintWords Go.Proofs.YtkmcefhchhahhaaW.PrintLast Go.Proofs.YtkmcefhchhahhaaW.PrintMore
open Go.Proofs.Ytkmcefhchhahhaa.Bits
open Go.Proofs.Ytkmcefhchhahhaa.Mt (sdiff cnt full Mat lt256 rk)
/-- What RankOf of the reference says: the rank, or -1. -/
def rankI (n : Int) (l : List Int) (s : Int) : Int := if isMatroid n l && isSetB n s then (rk (l.map Int.toNat) s.toNat : Int) else -1
theorem RankOf_s (n : Int) (l : List Int) (s : Int) (hl : l.length ≤ 17592186044416) : Ev (fun k => spec_RankOf.f k n l s) (rankI n l s) := by
  unfold spec_RankOf.f rankI
  refine Ev.bind (IsMatroid_s n l hl) ?_
  cases h : isMatroid n l
  · simp only [Bool.false_eq_true, if_false, Bool.false_and]; exact Ev.now _
  obtain ⟨N, B, rfl, rfl, hp, M⟩ := mat_parts h
  rw [ints_length] at hl
  simp only [if_true, IsSet_s, Option.bind_some, Bool.true_and]
  rw [show decide (0 ≤ (N : Int) ∧ (N : Int) ≤ 8 ∧ 0 ≤ s ∧ s < 2 ^ ((N : Int)).toNat) = isSetB (N : Int) s from rfl]
  cases hs : isSetB (N : Int) s
  · simp only [Bool.false_eq_true, if_false]; exact Ev.now _
  obtain ⟨S, rfl, hS⟩ := set_nat hs
  simp only [if_true, toNat_ints, Int.toNat_natCast]
  exact Ev.bind (rank_s M.size M.lt hl (lt256 M.size hS) _) (Ev.now _)
end Go.Proofs.Ytkmcefhchhahhaa.L
