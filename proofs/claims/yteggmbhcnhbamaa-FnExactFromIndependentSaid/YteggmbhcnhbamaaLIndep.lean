/-
  The independent sets: of program and reference the same. Condition: lists of at most 2^44 elements.
-/
import Derived.Test.YteggmbhcnhbamaaFx7
import Derived.Test.YteggmbhcnhbamaaLSubset
import Derived.Test.YteggmbhcnhbamaaLRank
import Derived.Test.YteggmbhcnhbamaaLSetsOf
import Derived.Test.YteggmbhcnhbamaaGvIndependentSets
namespace Go.Proofs.Yteggmbhcnhbamaa.L
open Go.RowKit Go.Proofs.Yteggmbhcnhbamaa.F Go.Proofs.YteggmbhcnhbamaaW.PrintWords Go.Proofs.YteggmbhcnhbamaaW.PrintLast Go.Proofs.YteggmbhcnhbamaaW.PrintMore
open Go.Proofs.Yteggmbhcnhbamaa.Bits
open Go.Proofs.Yteggmbhcnhbamaa.Mt (sdiff cnt full Mat lt256 rk ind ind_iff sub_iff_and)
set_option linter.unusedSimpArgs false
set_option linter.unusedVariables false
def isInd (B : List Nat) (s : Nat) : Bool := decide (rk B s = cnt s)
theorem isInd_iff {N : Nat} {B : List Nat} (M : Mat N B) {s : Nat} (hs : s < 256) : isInd B s = true ↔ ind B s := by
  unfold isInd; rw [decide_eq_true_eq, ← ind_iff M.ne hs]
/-- The independent sets below a number, in order. -/
def indN (B : List Nat) (m : Nat) : List Nat := (List.range m).filter (isInd B)
theorem indN_len (B : List Nat) (m : Nat) : (indN B m).length ≤ m := by
  have := List.length_filter_le (isInd B) (List.range m)
  rwa [List.length_range] at this
theorem indN_lt {B : List Nat} {m s : Nat} (h : s ∈ indN B m) : s < m := List.mem_range.1 (List.mem_filter.1 h).1
section
variable {N : Nat} {B : List Nat}
theorem independent_i (M : Mat N B) (hl : B.length ≤ 17592186044416) {s : Nat} (hs : s < 256) (n : Int) : Ev (fun k => impl_independent.f k n (ints B) (s : Int)) (isInd B s) := by
  unfold impl_independent.f
  have h := loop_back (fun k i => impl_independent.l0 k (s : Int) (ints B) ((ints B).length : Int) i) B.length (fun i r => decide (s &&& B.getD i 0 = s) || r) false
    (by simp only [impl_independent.l0, ints_length, show ¬ ((B.length : Int) < (B.length : Int)) by omega, if_false]; exact Ev.now _) fun i hi r hr => by
      have hb := getD_lt M.lt i hi
      have eb := rd_get' i hi
      simp only [impl_independent.l0, ints_length, show ((i : Int) < (B.length : Int)) by omega, show (0 : Int) ≤ (i : Int) by omega, if_true, eb, IsSubset_i hs (lt256 M.size hb), Option.bind_some, decide_eq_true_eq, wrap_succ (show i < 9223372036854775807 by omega)]
      by_cases h : s &&& B.getD i 0 = s
      · simp only [h, if_true, decide_true, Bool.true_or]; exact Ev.now _
      · simp only [h, if_false, decide_false, Bool.false_or]; simpa [ints_length] using hr
  rw [foldr_any, Bool.or_false] at h
  have e : ((List.range B.length).any fun i => decide (s &&& B.getD i 0 = s)) = isInd B s := by
    rw [Bool.eq_iff_iff, isInd_iff M hs, List.any_eq_true]
    constructor
    · rintro ⟨i, hi, h⟩
      rw [List.mem_range] at hi
      rw [decide_eq_true_eq] at h
      refine ⟨B.getD i 0, ?_, sub_iff_and.2 h⟩
      rw [show B.getD i 0 = B[i] by simp [List.getElem?_eq_getElem hi]]; exact List.getElem_mem hi
    · rintro ⟨b, hb, h⟩
      obtain ⟨i, hi, rfl⟩ := List.getElem_of_mem hb
      refine ⟨i, List.mem_range.2 hi, ?_⟩
      rw [decide_eq_true_eq, show B.getD i 0 = B[i] by simp [List.getElem?_eq_getElem hi]]
      exact sub_iff_and.1 h
  rw [e] at h
  exact h
end
def indI (n : Int) (l : List Int) : List Int := if isMatroid n l = true then ints (indN (l.map Int.toNat) (2 ^ n.toNat)) else []
theorem indI_length (n : Int) (l : List Int) : (indI n l).length ≤ 17592186044416 := by
  unfold indI
  split
  · rename_i h
    obtain ⟨N, B, rfl, rfl, hp, M⟩ := mat_parts h
    have hp : (2 : Nat) ^ N ≤ 2 ^ 8 := Nat.pow_le_pow_right (by decide) M.size
    have := indN_len B (2 ^ N)
    rw [ints_length, Int.toNat_natCast, toNat_ints]; omega
  · simp
theorem IndependentSets_i (n : Int) (l : List Int) (hl : l.length ≤ 17592186044416) : Ev (fun k => impl_IndependentSets.f k n l) (indI n l) := by
  unfold impl_IndependentSets.f indI
  refine Ev.bind (IsMatroid_i n l hl) ?_
  cases h : isMatroid n l
  · simp only [Bool.false_eq_true, if_false]; exact Ev.now _
  obtain ⟨N, B, rfl, rfl, hp, M⟩ := mat_parts h
  rw [ints_length] at hl
  simp only [if_true, toNat_ints, Int.toNat_natCast]
  exact setsO_ev (fun k => impl_IndependentSets.q k N (ints B)) (isInd B) M.size fun s hs => independent_i M hl (lt256 M.size hs) _
end Go.Proofs.Yteggmbhcnhbamaa.L
