/-
  A matroid by its independent sets: of program and reference the same. Condition: lists of at most 2^44 elements.
-/
import Derived.Test.YteggmbhcnhbamaaFx27
import Derived.Test.YteggmbhcnhbamaaFx40
import Derived.Test.YteggmbhcnhbamaaFx31
import Derived.Test.YteggmbhcnhbamaaFx17
import Derived.Test.YteggmbhcnhbamaaLIndep
import Derived.Test.YteggmbhcnhbamaaLMaximal
import Derived.Test.YteggmbhcnhbamaaLSame
namespace Go.Proofs.Yteggmbhcnhbamaa.L
open Go.RowKit Go.Proofs.Yteggmbhcnhbamaa.F Go.Proofs.YteggmbhcnhbamaaW.PrintWords Go.Proofs.YteggmbhcnhbamaaW.PrintLast Go.Proofs.YteggmbhcnhbamaaW.PrintMore
open Go.Proofs.Yteggmbhcnhbamaa.Bits
open Go.Proofs.Yteggmbhcnhbamaa.Mt (cnt full Mat lt256 rk)
set_option linter.unusedSimpArgs false
set_option linter.unusedVariables false
theorem IndependentSets_s (n : Int) (l : List Int) (hl : l.length ≤ 17592186044416) : Ev (fun k => spec_IndependentSets.f k n l) (indI n l) := by
  unfold spec_IndependentSets.f indI
  simp only [Option.bind_some]
  refine Ev.bind (IsMatroid_s n l hl) ?_
  cases h : isMatroid n l
  · simp only [Bool.false_eq_true, if_false]; exact Ev.now _
  obtain ⟨N, B, rfl, rfl, hp, M⟩ := mat_parts h
  rw [ints_length] at hl
  simp only [if_true, toNat_ints, Int.toNat_natCast]
  have hpw : (2 : Nat) ^ N ≤ 2 ^ 8 := Nat.pow_le_pow_right (by decide) M.size
  have key := loop_reach (fun k acc s => spec_IndependentSets.l0 k acc s N (ints B)) (2 ^ N) (fun acc s => if isInd B s = true then acc ++ [(s : Int)] else acc) (fun s acc => acc = ints (indN B s))
    (fun s acc hs ha => ⟨by
      rw [ha]; unfold indN
      rw [List.range_succ, List.filter_append]
      cases h : isInd B s <;> simp [ints, h], fun r hr => by
      have hlen : acc.length < 17592186044416 := by have := indN_len B s; rw [ha, ints_length]; omega
      have hs8 := lt256 M.size hs
      simp only [spec_IndependentSets.l0, FullSet_s M.size, Option.bind_some, le_full.2 hs, if_true, wrap_succ (show s < 9223372036854775807 by omega)]
      refine Ev.bind (rank_s M.size M.lt hl hs8 _) (Ev.bind (CountOf_s _) ?_)
      rw [cntI_nat hs8]
      by_cases h : rk B s = cnt s
      · rw [show isInd B s = true from decide_eq_true h] at hr
        simp only [if_true] at hr
        simp only [h, if_true, hlen]; exact hr
      · rw [show isInd B s = false from decide_eq_false h] at hr
        simp only [Bool.false_eq_true, if_false] at hr
        simp only [show ¬ (((rk B s : Nat) : Int) = ((cnt s : Nat) : Int)) by omega, if_false]; exact hr⟩) [] (by simp [indN, ints])
  refine key.2 _ (Ev.succ ?_)
  rw [key.1]
  simp only [spec_IndependentSets.l0, FullSet_s M.size, Option.bind_some, if_neg (fun h => Nat.lt_irrefl _ (le_full.1 h))]
  exact Ev.now _
/-- The matroid whose bases are the greatest of some sets, if it is one. -/
def fromInd0 (n : Int) (L : List Nat) : Int × List Int × Bool := if isMatroid n (ints (maxN L)) = true then (n, ints (maxN L), true) else (0, [], false)
theorem fromIndependent_i (n : Int) {L : List Nat} (hL : ∀ x ∈ L, x < 256) (hl : L.length ≤ 17592186044416) : Ev (fun k => impl_fromIndependent.f k n (ints L)) (fromInd0 n L) := by
  unfold impl_fromIndependent.f fromInd0
  have hlen := maxN_len L
  refine Ev.bind (MaximalSets_i hL hl) (Ev.bind (IsMatroid_i n _ (by rw [ints_length]; omega)) ?_)
  cases isMatroid n (ints (maxN L))
  · simp only [Bool.false_eq_true, if_false]; exact Ev.now _
  · simp only [if_true]; exact Ev.now _
def fromIndI (n : Int) (l : List Int) : Int × List Int × Bool :=
  if isFamily n l && (isMatroid n (ints (maxN (l.map Int.toNat))) && decide (indI n (ints (maxN (l.map Int.toNat))) = l)) then (n, ints (maxN (l.map Int.toNat)), true) else (0, [], false)
theorem fromIndI_length (n : Int) (l : List Int) : (fromIndI n l).2.1.length ≤ 17592186044416 := by
  unfold fromIndI; split
  · have := maxN_len (l.map Int.toNat)
    rw [ints_length]; omega
  · simp
theorem fam_sets {n : Int} {l : List Int} (h : isFamily n l = true) : ∃ (N : Nat) (L : List Nat), n = N ∧ N ≤ 8 ∧ l = ints L ∧ (∀ x ∈ L, x < 2 ^ N) ∧ L.Pairwise (· < ·) ∧ (∀ x ∈ L, x < 256) ∧ L.length ≤ 256 := by
  obtain ⟨N, L, rfl, hN, rfl, h1, h2⟩ := fam_parts h
  have h3 : ∀ x ∈ L, x < 256 := fun x hx => lt256 hN (h1 x hx)
  exact ⟨N, L, rfl, hN, rfl, h1, h2, h3, sorted_len h3 h2⟩
theorem FromIndependent_s (n : Int) (l : List Int) (hl : l.length ≤ 17592186044416) : Ev (fun k => spec_FromIndependent.f k n l) (fromIndI n l) := by
  unfold spec_FromIndependent.f fromIndI
  refine Ev.bind (IsFamily_s n l hl) ?_
  cases h : isFamily n l
  · simp only [Bool.false_eq_true, if_false, Bool.false_and]; exact Ev.now _
  obtain ⟨N, L, rfl, hN, rfl, h1, h2, h3, h4⟩ := fam_sets h
  have hlen := maxN_len L
  simp only [if_true, Bool.true_and, toNat_ints]
  refine Ev.bind (MaximalSets_s h3 (by omega)) (Ev.bind (IsMatroid_s _ _ (by rw [ints_length]; omega)) ?_)
  cases hm : isMatroid (N : Int) (ints (maxN L))
  · simp only [Bool.false_eq_true, if_false, Bool.false_and]; exact Ev.now _
  simp only [if_true, Bool.true_and]
  refine Ev.bind (IndependentSets_s _ _ (by rw [ints_length]; omega)) (Ev.bind (same_s _ _ (indI_length _ _)) ?_)
  by_cases he : indI (N : Int) (ints (maxN L)) = ints L
  · simp only [decide_eq_true he, if_true]; exact Ev.now _
  · simp only [decide_eq_false he, Bool.false_eq_true, if_false]; exact Ev.now _
theorem FromIndependent_i (n : Int) (l : List Int) (hl : l.length ≤ 17592186044416) : Ev (fun k => impl_FromIndependent.f k n l) (fromIndI n l) := by
  unfold impl_FromIndependent.f fromIndI
  refine Ev.bind (IsFamily_i n l hl) ?_
  cases h : isFamily n l
  · simp only [Bool.false_eq_true, if_false, Bool.false_and]; exact Ev.now _
  obtain ⟨N, L, rfl, hN, rfl, h1, h2, h3, h4⟩ := fam_sets h
  have hlen := maxN_len L
  simp only [if_true, Bool.true_and, toNat_ints]
  refine Ev.bind (fromIndependent_i (N : Int) h3 (by omega)) ?_
  unfold fromInd0
  cases hm : isMatroid (N : Int) (ints (maxN L))
  · simp only [Bool.false_eq_true, if_false, Bool.false_and]; exact Ev.now _
  simp only [if_true, Bool.true_and]
  refine Ev.bind (IndependentSets_i _ _ (by rw [ints_length]; omega)) (Ev.bind (same_i _ _ (indI_length _ _)) ?_)
  by_cases he : indI (N : Int) (ints (maxN L)) = ints L
  · simp only [decide_eq_true he, if_true]; exact Ev.now _
  · simp only [decide_eq_false he, Bool.false_eq_true, if_false]; exact Ev.now _
end Go.Proofs.Yteggmbhcnhbamaa.L
