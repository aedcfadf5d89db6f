/-
  Two lists of whole numbers compared, by reference and library. Condition: a list of at most 2^44 elements.
-/
import Derived.Test.YteggmbhcnhbamaaFx17
import Derived.Test.YteggmbhcnhbamaaLLists
namespace Go.Proofs.Yteggmbhcnhbamaa.L
open Go.RowKit Go.Proofs.Yteggmbhcnhbamaa.F Go.Proofs.YteggmbhcnhbamaaW.PrintWords Go.Proofs.YteggmbhcnhbamaaW.PrintLast Go.Proofs.YteggmbhcnhbamaaW.PrintMore
open Go.Proofs.Yteggmbhcnhbamaa.Bits
theorem same_s (l l' : List Int) (h : l.length ≤ 17592186044416) : Ev (fun k => spec_l7Same.f k l l') (decide (l = l')) := by
  unfold spec_l7Same.f
  by_cases e : l.length = l'.length
  · simp only [show ((l.length : Int) = (l'.length : Int)) by omega, if_true]
    rw [← all_eq_range l l' e]
    refine loop_all0 _ _ _ (fun k => by simp only [spec_l7Same.l0, show ¬ ((l.length : Int) < (l.length : Int)) by omega, if_false]) ?_
    intro i hi k
    simp only [spec_l7Same.l0, show ((i : Int) < (l.length : Int)) by omega, show ((i : Int) < (l'.length : Int)) by omega, show (0 : Int) ≤ (i : Int) by omega, if_true, rd_getD, wrap_succ (show i < 9223372036854775807 by omega), decide_eq_true_eq]
  · simp only [show ¬ ((l.length : Int) = (l'.length : Int)) by omega, if_false]
    rw [show decide (l = l') = false by simp; rintro rfl; exact e rfl]
    exact Ev.now _
theorem same_i (l l' : List Int) (h : l.length ≤ 17592186044416) : Ev (fun k => slices_Equal_int_int.f k l l') (decide (l = l')) := by
  unfold slices_Equal_int_int.f
  by_cases e : l.length = l'.length
  · simp only [show ((l.length : Int) = (l'.length : Int)) by omega, if_true]
    rw [← all_eq_range l l' e]
    refine loop_all0 (fun k i => slices_Equal_int_int.l0 k l l' (l'.length : Int) i) _ _ (fun k => by simp only [slices_Equal_int_int.l0, show ¬ ((l.length : Int) < (l'.length : Int)) by omega, if_false]) ?_
    intro i hi k
    simp only [slices_Equal_int_int.l0, show ((i : Int) < (l.length : Int)) by omega, show ((i : Int) < (l'.length : Int)) by omega, show (0 : Int) ≤ (i : Int) by omega, if_true, rd_getD, wrap_succ (show i < 9223372036854775807 by omega), decide_eq_true_eq]
  · simp only [show ¬ ((l.length : Int) = (l'.length : Int)) by omega, if_false]
    rw [show decide (l = l') = false by simp; rintro rfl; exact e rfl]
    exact Ev.now _
end Go.Proofs.Yteggmbhcnhbamaa.L
