/-
  slices.Equal on whole numbers, the reference's own comparison, equality of matrices. Condition: a list of at most 2^44 elements.
-/
import Derived.Test.YtjfdmgjfhplglaaFx6
import Derived.Test.YtjfdmgjfhplglaaFx7
import Derived.Test.YtjfdmgjfhplglaaLMatrix
namespace Go.Proofs.Ytjfdmgjfhplglaa.L
open Go.RowKit Go.Proofs.Ytjfdmgjfhplglaa.F Go.Proofs.YtjfdmgjfhplglaaW.PrintWords Go.Proofs.YtjfdmgjfhplglaaW.PrintLast Go.Proofs.YtjfdmgjfhplglaaW.PrintMore
open Go.Proofs.Ytjfdmgjfhplglaa.Bits
theorem l7Same (l l' : List Int) (h : l.length ≤ 17592186044416) : Ev (fun k => spec_l7Same.f k l l') (decide (l = l')) := by
  unfold spec_l7Same.f
  by_cases e : l.length = l'.length
  · simp only [show ((l.length : Int) = (l'.length : Int)) by omega, if_true]
    rw [← all_eq_range l l' e]
    refine loop_all0 _ _ _ (fun k => by simp only [spec_l7Same.l0, show ¬ ((l.length : Int) < (l.length : Int)) by omega, if_false]) ?_
    intro i hi k
    simp only [spec_l7Same.l0, show ((i : Int) < (l.length : Int)) by omega, show ((i : Int) < (l'.length : Int)) by omega, show (0 : Int) ≤ (i : Int) by omega, if_true, rd_getD, wrap_succ (show i < 9223372036854775807 by omega), decide_eq_true_eq]
  · simp only [show ¬ ((l.length : Int) = (l'.length : Int)) by omega, if_false]
    rw [show decide (l = l') = false by simp; rintro rfl; exact e rfl]
    exact Ev.now _
theorem slicesEqual (l l' : List Int) (h : l.length ≤ 17592186044416) : Ev (fun k => slices_Equal_int_int.f k l l') (decide (l = l')) := by
  unfold slices_Equal_int_int.f
  by_cases e : l.length = l'.length
  · simp only [show ((l.length : Int) = (l'.length : Int)) by omega, if_true]
    rw [← all_eq_range l l' e]
    refine loop_all0 (fun k i => slices_Equal_int_int.l0 k l l' (l'.length : Int) i) _ _ (fun k => by simp only [slices_Equal_int_int.l0, show ¬ ((l.length : Int) < (l'.length : Int)) by omega, if_false]) ?_
    intro i hi k
    simp only [slices_Equal_int_int.l0, show ((i : Int) < (l.length : Int)) by omega, show ((i : Int) < (l'.length : Int)) by omega, show (0 : Int) ≤ (i : Int) by omega, if_true, rd_getD, wrap_succ (show i < 9223372036854775807 by omega), decide_eq_true_eq]
  · simp only [show ¬ ((l.length : Int) = (l'.length : Int)) by omega, if_false]
    rw [show decide (l = l') = false by simp; rintro rfl; exact e rfl]
    exact Ev.now _
def eqMat (p r c : Int) (l : List Int) (p' r' c' : Int) (l' : List Int) : Bool := decide ((p, r, c, l) = (p', r', c', l'))
theorem eqMat_list (p r c : Int) (l l' : List Int) : eqMat p r c l p r c l' = decide (l = l') := by simp [eqMat]
theorem eqMat_no {p r c : Int} {l : List Int} {p' r' c' : Int} {l' : List Int} (h : ¬ (p = p' ∧ r = r' ∧ c = c')) : eqMat p r c l p' r' c' l' = false := by
  simp only [eqMat, decide_eq_false_iff_not, Prod.mk.injEq]; exact fun hh => h ⟨hh.1, hh.2.1, hh.2.2.1⟩
theorem EqualMatrix_s (p r c : Int) (l : List Int) (p' r' c' : Int) (l' : List Int) (h : l.length ≤ 17592186044416) : Ev (fun k => spec_EqualMatrix.f k p r c l p' r' c' l') (eqMat p r c l p' r' c' l') := by
  unfold spec_EqualMatrix.f
  by_cases hh : p = p' ∧ r = r' ∧ c = c'
  · obtain ⟨rfl, rfl, rfl⟩ := hh
    simp only [if_true, eqMat_list]
    exact Ev.bind (l7Same l l' h) (Ev.now _)
  · rw [eqMat_no hh]
    by_cases h1 : p = p'
    · by_cases h2 : r = r'
      · have h3 : ¬ c = c' := fun h3 => hh ⟨h1, h2, h3⟩
        simp only [h1, h2, h3, if_true, if_false]; exact Ev.now _
      · simp only [h1, h2, if_true, if_false]; exact Ev.now _
    · simp only [h1, if_false]; exact Ev.now _
theorem EqualMatrix_i (p r c : Int) (l : List Int) (p' r' c' : Int) (l' : List Int) (h : l.length ≤ 17592186044416) : Ev (fun k => impl_EqualMatrix.f k p r c l p' r' c' l') (eqMat p r c l p' r' c' l') := by
  unfold impl_EqualMatrix.f
  by_cases hh : p = p' ∧ r = r' ∧ c = c'
  · obtain ⟨rfl, rfl, rfl⟩ := hh
    simp only [if_true, eqMat_list]
    exact Ev.bind (slicesEqual l l' h) (Ev.now _)
  · rw [eqMat_no hh]
    by_cases h1 : p = p'
    · by_cases h2 : r = r'
      · have h3 : ¬ c = c' := fun h3 => hh ⟨h1, h2, h3⟩
        simp only [h1, h2, h3, if_true, if_false]; exact Ev.now _
      · simp only [h1, h2, if_true, if_false]; exact Ev.now _
    · simp only [h1, if_false]; exact Ev.now _
end Go.Proofs.Ytjfdmgjfhplglaa.L
