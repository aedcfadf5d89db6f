/-
  slices.Equal on whole numbers; equality of sizes with lists. Condition: lists of at most 2^44 elements.
-/
import Derived.Test.YtkmcefhchhahhaaFx13
import Derived.Test.YtkmcefhchhahhaaLLists
namespace Go.Proofs.Ytkmcefhchhahhaa.L
open Go.RowKit Go.Proofs.Ytkmcefhchhahhaa.F Go.Proofs.YtkmcefhchhahhaaW.PrintWords Go.Proofs.YtkmcefhchhahhaaW.PrintLast Go.Proofs.YtkmcefhchhahhaaW.PrintMore
open Go.Proofs.Ytkmcefhchhahhaa.Bits
set_option linter.unusedSimpArgs false
theorem slicesEqual (l l' : List Int) (h : l.length ≤ 17592186044416) : Ev (fun k => slices_Equal_int_int.f k l l') (decide (l = l')) := by
  unfold slices_Equal_int_int.f
  by_cases e : l.length = l'.length
  · simp only [show ((l.length : Int) = (l'.length : Int)) by omega, if_true]
    rw [← all_eq_range l l' e]
    refine loop_all0 (fun k i => slices_Equal_int_int.l0 k l l' (l'.length : Int) i) _ _ (fun k => by simp only [slices_Equal_int_int.l0, show ¬ ((l.length : Int) < (l'.length : Int)) by omega, if_false]) ?_
    intro i hi k
    simp only [slices_Equal_int_int.l0, show ((i : Int) < (l.length : Int)) by omega, show ((i : Int) < (l'.length : Int)) by omega, show (0 : Int) ≤ (i : Int) by omega, if_true, rd_getD, wrap_succ (show i < 9223372036854775807 by omega), decide_eq_true_eq]
  · simp only [show ¬ ((l.length : Int) = (l'.length : Int)) by omega, if_false]
    rw [show decide (l = l') = false by simp; rintro rfl; exact e rfl]
    exact Ev.now _
def eqM (n : Int) (l : List Int) (n' : Int) (l' : List Int) : Bool := decide (n = n' ∧ l = l')
theorem EqualMatroid_i (n : Int) (l : List Int) (n' : Int) (l' : List Int) (h : l.length ≤ 17592186044416) : Ev (fun k => impl_EqualMatroid.f k n l n' l') (eqM n l n' l') := by
  unfold impl_EqualMatroid.f eqM
  by_cases e : n = n'
  · simp only [e, if_true, true_and]
    exact Ev.bind (slicesEqual l l' h) (Ev.now _)
  · simp only [e, if_false, false_and, decide_false]; exact Ev.now _
theorem EqualMatroid_s (n : Int) (l : List Int) (n' : Int) (l' : List Int) (h : l.length ≤ 17592186044416) : Ev (fun k => spec_EqualMatroid.f k n l n' l') (eqM n l n' l') := by
  unfold spec_EqualMatroid.f eqM
  by_cases e : n = n'
  · simp only [e, if_true, true_and]
    refine Ev.succ ?_
    by_cases el : l.length = l'.length
    · simp only [spec_EqualMatroid.j0, show (((l.length : Int) != (l'.length : Int)) = false) by rw [bne_eq_false_iff_eq]; omega, Bool.false_eq_true, if_false]
      rw [← all_eq_range l l' el]
      refine loop_all0 (fun k i => spec_EqualMatroid.l0 k i n' l n' l') _ _ (fun k => by simp only [spec_EqualMatroid.l0, show ¬ ((l.length : Int) < (l.length : Int)) by omega, if_false]) ?_
      intro i hi k
      simp only [spec_EqualMatroid.l0, show ((i : Int) < (l.length : Int)) by omega, show ((i : Int) < (l'.length : Int)) by omega, show (0 : Int) ≤ (i : Int) by omega, if_true, rd_getD, wrap_succ (show i < 9223372036854775807 by omega), decide_eq_true_eq]
    · simp only [spec_EqualMatroid.j0, show (((l.length : Int) != (l'.length : Int)) = true) by rw [bne_iff_ne]; omega, if_true]
      rw [show decide (l = l') = false by simp; rintro rfl; exact el rfl]
      exact Ev.now _
  · simp only [e, if_false, false_and, decide_false]
    refine Ev.succ ?_
    simp only [spec_EqualMatroid.j0, if_true]; exact Ev.now _
end Go.Proofs.Ytkmcefhchhahhaa.L
