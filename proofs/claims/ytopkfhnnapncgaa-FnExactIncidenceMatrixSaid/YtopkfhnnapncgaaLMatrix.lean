/-
  What a matrix is, as both functions answer; the laws' own copy, comparison and size of matrices. No condition but the lists' lengths.
-/
import Derived.Test.YtopkfhnnapncgaaFx4
import Derived.Test.YtopkfhnnapncgaaFx3
import Derived.Test.YtopkfhnnapncgaaLSets
import Derived.Test.YtopkfhnnapncgaaLLists
namespace Go.Proofs.Ytopkfhnnapncgaa.L
open Go.RowKit Go.Proofs.Ytopkfhnnapncgaa.F Go.Proofs.YtopkfhnnapncgaaW.PrintWords Go.Proofs.YtopkfhnnapncgaaW.PrintLast Go.Proofs.YtopkfhnnapncgaaW.PrintMore
open Go.Proofs.Ytopkfhnnapncgaa.Bits
set_option linter.unusedSimpArgs false
def isField (p : Int) : Bool := decide (p = 2 ∨ p = 3 ∨ p = 5 ∨ p = 7)
theorem isField_i (p : Int) : impl_isField.f p = some (isField p) := by
  unfold impl_isField.f isField
  by_cases h2 : p = 2
  · simp [h2]
  by_cases h3 : p = 3
  · simp [h3]
  by_cases h5 : p = 5
  · simp [h5]
  rw [if_neg h2, if_neg h3, if_neg h5]
  simp only [h2, h3, h5, false_or]
  rfl
theorem isField_s (p : Int) : spec_l12Prime.f p = some (isField p) := by
  unfold spec_l12Prime.f isField
  by_cases h2 : p = 2
  · simp [h2]
  by_cases h3 : p = 3
  · simp [h3]
  by_cases h5 : p = 5
  · simp [h5]
  rw [if_neg h2, if_neg h3, if_neg h5]
  simp only [h2, h3, h5, false_or]
  rfl
/-- What a matrix is. -/
def isMatrix (p r c : Int) (l : List Int) : Bool :=
  isField p && decide (0 ≤ r ∧ r ≤ 8 ∧ 0 ≤ c ∧ c ≤ 8 ∧ (l.length : Int) = r * c) && l.all fun x => decide (0 ≤ x ∧ x < p)
theorem isMatrix_no {p r c : Int} {l : List Int} (h : ¬ (isField p = true ∧ 0 ≤ r ∧ r ≤ 8 ∧ 0 ≤ c ∧ c ≤ 8 ∧ (l.length : Int) = r * c)) : isMatrix p r c l = false := by
  unfold isMatrix
  cases hp : isField p
  · simp
  · have : ¬ (0 ≤ r ∧ r ≤ 8 ∧ 0 ≤ c ∧ c ≤ 8 ∧ (l.length : Int) = r * c) := fun hh => h ⟨hp, hh⟩
    simp only [this, decide_false, Bool.and_false, Bool.false_and]
theorem mul_in {r c : Int} (hr : 0 ≤ r ∧ r ≤ 8) (hc : 0 ≤ c ∧ c ≤ 8) : 0 ≤ r * c ∧ r * c ≤ 64 :=
  ⟨Int.mul_nonneg hr.1 hc.1, by have := Int.mul_le_mul hr.2 hc.2 hc.1 (by omega : (0 : Int) ≤ 8); omega⟩
theorem isMatrix_yes {p r c : Int} {l : List Int} (h : isField p = true ∧ 0 ≤ r ∧ r ≤ 8 ∧ 0 ≤ c ∧ c ≤ 8 ∧ (l.length : Int) = r * c) : isMatrix p r c l = l.all fun x => decide (0 ≤ x ∧ x < p) := by
  unfold isMatrix; simp only [h.1, h.2, and_self, decide_true, Bool.and_self, Bool.true_and]
theorem isField_le {p : Int} (h : isField p = true) : 2 ≤ p ∧ p ≤ 7 := by
  have : p = 2 ∨ p = 3 ∨ p = 5 ∨ p = 7 := of_decide_eq_true h
  omega
theorem IsMatrix_s (p r c : Int) (l : List Int) : Ev (fun k => spec_IsMatrix.f k p r c l) (isMatrix p r c l) := by
  have no : ∀ p r c l, Ev (fun k => spec_IsMatrix.j0 k true p r c l) false := fun p r c l => Ev.succ (by simp only [spec_IsMatrix.j0, if_true]; exact Ev.now _)
  unfold spec_IsMatrix.f
  simp only [l1In, isField_s, Option.bind_some, decide_eq_true_eq]
  by_cases hp : isField p = true
  · simp only [hp, if_true]
    by_cases hr : 0 ≤ r ∧ r ≤ 8
    · simp only [hr, and_self, if_true]
      by_cases hc : 0 ≤ c ∧ c ≤ 8
      · simp only [hc, and_self, if_true]
        have hm := mul_in hr hc
        have hw : wrap64 (r * c) = r * c := wrap_in (by omega) (by omega)
        rw [hw]
        by_cases he : (l.length : Int) = r * c
        · rw [show ((l.length : Int) != r * c) = false by simp [he], isMatrix_yes ⟨hp, hr.1, hr.2, hc.1, hc.2, he⟩]
          have hp2 := isField_le hp
          refine Ev.succ ?_
          simp only [spec_IsMatrix.j0, Bool.false_eq_true, if_false]
          rw [← range_all_get l 0]
          refine loop_all0 (fun k i => spec_IsMatrix.l0 k i p r c l) _ _ (fun k => by simp only [spec_IsMatrix.l0, show ¬ ((l.length : Int) < (l.length : Int)) by omega, if_false]) ?_
          intro i hi k
          have hw : wrap64 (p - 1) = p - 1 := wrap_in (by omega) (by omega)
          simp only [spec_IsMatrix.l0, show ((i : Int) < (l.length : Int)) by omega, show (0 : Int) ≤ (i : Int) by omega, if_true, rd_getD, wrap_succ (show i < 9223372036854775807 by omega), l1In, hw, Option.bind_some, decide_eq_true_eq]
          generalize l.getD i 0 = x
          by_cases h1 : 0 ≤ x ∧ x ≤ p - 1
          · rw [if_pos h1, if_pos (by omega)]
          · rw [if_neg h1, if_neg (by omega)]
        · rw [show ((l.length : Int) != r * c) = true by simp [he], isMatrix_no (fun hh => he hh.2.2.2.2.2)]; exact no _ _ _ _
      · simp only [hc, if_false]; rw [isMatrix_no (fun hh => hc ⟨hh.2.2.2.1, hh.2.2.2.2.1⟩)]; exact no _ _ _ _
    · simp only [hr, if_false]; rw [isMatrix_no (fun hh => hr ⟨hh.2.1, hh.2.2.1⟩)]; exact no _ _ _ _
  · simp only [hp, if_false]; rw [isMatrix_no (fun hh => hp hh.1)]; exact no _ _ _ _
theorem IsMatrix_i (p r c : Int) (l : List Int) : Ev (fun k => impl_IsMatrix.f k p r c l) (isMatrix p r c l) := by
  have no : ∀ p r c l, Ev (fun k => impl_IsMatrix.j0 k true p r c l) false := fun p r c l => Ev.succ (by simp only [impl_IsMatrix.j0, if_true]; exact Ev.now _)
  unfold impl_IsMatrix.f
  simp only [isSize_i, isField_i, Option.bind_some, decide_eq_true_eq]
  by_cases hp : isField p = true
  · simp only [hp, if_true]
    by_cases hr : 0 ≤ r ∧ r ≤ 8
    · simp only [hr, and_self, if_true]
      by_cases hc : 0 ≤ c ∧ c ≤ 8
      · simp only [hc, and_self, if_true]
        have hm := mul_in hr hc
        have hw : wrap64 (r * c) = r * c := wrap_in (by omega) (by omega)
        rw [hw]
        by_cases he : (l.length : Int) = r * c
        · rw [show ((l.length : Int) != r * c) = false by simp [he], isMatrix_yes ⟨hp, hr.1, hr.2, hc.1, hc.2, he⟩]
          refine Ev.succ ?_
          simp only [impl_IsMatrix.j0, Bool.false_eq_true, if_false]
          rw [← range_all_get l 0]
          refine loop_all0 (fun k i => impl_IsMatrix.l0 k l (l.length : Int) i p r c l) _ _ (fun k => by simp only [impl_IsMatrix.l0, show ¬ ((l.length : Int) < (l.length : Int)) by omega, if_false]) ?_
          intro i hi k
          simp only [impl_IsMatrix.l0, show ((i : Int) < (l.length : Int)) by omega, show (0 : Int) ≤ (i : Int) by omega, if_true, rd_getD, wrap_succ (show i < 9223372036854775807 by omega), decide_eq_true_eq]
          generalize l.getD i 0 = x
          by_cases h1 : x < 0
          · rw [if_pos h1, if_neg (by omega)]
          rw [if_neg h1]
          by_cases h2 : x ≥ p
          · rw [if_pos h2, if_neg (by omega)]
          rw [if_neg h2, if_pos (by omega)]
        · rw [show ((l.length : Int) != r * c) = true by simp [he], isMatrix_no (fun hh => he hh.2.2.2.2.2)]; exact no _ _ _ _
      · simp only [hc, if_false]; rw [isMatrix_no (fun hh => hc ⟨hh.2.2.2.1, hh.2.2.2.2.1⟩)]; exact no _ _ _ _
    · simp only [hr, if_false]; rw [isMatrix_no (fun hh => hr ⟨hh.2.1, hh.2.2.1⟩)]; exact no _ _ _ _
  · simp only [hp, if_false]; rw [isMatrix_no (fun hh => hp hh.1)]; exact no _ _ _ _
theorem toMatrix (p r c : Int) (l : List Int) (h : l.length ≤ 17592186044416) : Ev (fun k => laws_toMatrix.f k p r c l) (p, r, c, l) := by
  unfold laws_toMatrix.f
  exact Ev.bind (toIntS l h) (Ev.now _)
theorem eqMatrix (p r c : Int) (l : List Int) (p' r' c' : Int) (l' : List Int) (h : l.length ≤ 17592186044416) : Ev (fun k => laws_eqMatrix.f k p r c l p' r' c' l') (decide ((p, r, c, l) = (p', r', c', l'))) := by
  unfold laws_eqMatrix.f
  by_cases h1 : p = p'
  · by_cases h2 : r = r'
    · by_cases h3 : c = c'
      · simp only [h1, h2, h3, if_true]
        refine Ev.bind (eqIntS l l' h) ?_
        by_cases h4 : l = l'
        · simp only [h4, decide_true, if_true]; exact Ev.now _
        · simp only [h4, decide_false, Bool.false_eq_true, if_false]; simp only [Prod.mk.injEq, h4, and_false, decide_false]; exact Ev.now _
      · simp only [h1, h2, h3, if_true, if_false, Prod.mk.injEq, and_false, false_and, decide_false]; exact Ev.now _
    · simp only [h1, h2, if_true, if_false, Prod.mk.injEq, and_false, false_and, decide_false]; exact Ev.now _
  · simp only [h1, if_false, Prod.mk.injEq, false_and, decide_false]; exact Ev.now _
theorem szMatrix (p r c : Int) (l : List Int) (n : Int) (h : l.length ≤ 17592186044416) (h0 : 0 ≤ n) (h1 : n ≤ 1048576) : ∃ m, laws_szMatrix.f p r c l n = some m ∧ (m < 0 ∨ (0 ≤ m ∧ m ≤ 1048576 ∧ l.length ≤ 1048576)) := by
  unfold laws_szMatrix.f
  rw [szIntS l n h h0 h1]
  simp only [Option.bind_some]
  by_cases hn : n < (l.length : Int)
  · rw [if_pos hn, if_pos (by decide)]
    exact ⟨_, rfl, .inl (by decide)⟩
  · rw [if_neg hn, if_neg (by omega)]
    exact ⟨_, rfl, .inr (by omega)⟩
end Go.Proofs.Ytopkfhnnapncgaa.L
