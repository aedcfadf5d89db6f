/-
  The cells of a matrix, row by row: where a cell lies and what it may hold. Condition: at most eight rows and columns.
-/
import Derived.Test.YtopkfhnnapncgaaLMatrix
namespace Go.Proofs.Ytopkfhnnapncgaa.L
open Go.RowKit Go.Proofs.Ytopkfhnnapncgaa.F Go.Proofs.YtopkfhnnapncgaaW.PrintWords Go.Proofs.YtopkfhnnapncgaaW.PrintLast Go.Proofs.YtopkfhnnapncgaaW.PrintMore
open Go.Proofs.Ytopkfhnnapncgaa.Bits
set_option linter.unusedSimpArgs false
set_option linter.unusedVariables false
/-- What a matrix holds, in natural numbers' places. -/
theorem matrix_parts {p r c : Int} {l : List Int} (h : isMatrix p r c l = true) : ∃ R C : Nat, r = R ∧ c = C ∧ R ≤ 8 ∧ C ≤ 8 ∧ l.length = R * C ∧ 2 ≤ p ∧ p ≤ 7 ∧ isField p = true ∧ ∀ x ∈ l, 0 ≤ x ∧ x < p := by
  unfold isMatrix at h
  simp only [Bool.and_eq_true, decide_eq_true_eq] at h
  obtain ⟨⟨h1, h2, h3, h4, h5, h6⟩, h7⟩ := h
  obtain ⟨R, rfl⟩ := Int.eq_ofNat_of_zero_le h2
  obtain ⟨C, rfl⟩ := Int.eq_ofNat_of_zero_le h4
  have := isField_le h1
  refine ⟨R, C, rfl, rfl, by omega, by omega, ?_, this.1, this.2, h1, fun x hx => ?_⟩
  · have : ((l.length : Nat) : Int) = ((R * C : Nat) : Int) := by rw [h6]; simp
    omega
  · have := List.all_eq_true.1 h7 x hx; simpa using this
theorem cell_in {R C i j : Nat} {l : List Int} (hl : l.length = R * C) (hi : i < R) (hj : j < C) : i * C + j < l.length := by
  rw [hl]; calc i * C + j < i * C + C := by omega
    _ = (i + 1) * C := by rw [Nat.succ_mul]
    _ ≤ R * C := Nat.mul_le_mul_right C hi
/-- The index of a cell, as the program computes it. -/
theorem cell_index {i C j : Nat} (hi : i ≤ 8) (hC : C ≤ 8) (hj : j ≤ 8) : wrap64 ((wrap64 ((i : Int) * (C : Int))) + (j : Int)) = ((i * C + j : Nat) : Int) := by
  have h : i * C ≤ 8 * 8 := Nat.mul_le_mul hi hC
  have e : (i : Int) * (C : Int) = ((i * C : Nat) : Int) := by simp
  rw [e, wrap_in (n := ((i * C : Nat) : Int)) (by omega) (by omega), wrap_in (by omega) (by omega)]; omega
theorem getD_in {l : List Int} {p : Int} (hp : 2 ≤ p) (h : ∀ x ∈ l, 0 ≤ x ∧ x < p) (i : Nat) : 0 ≤ l.getD i 0 ∧ l.getD i 0 < p := by
  by_cases hi : i < l.length
  · have := h l[i] (List.getElem_mem hi); simpa [List.getElem?_eq_getElem hi] using this
  · simp [List.getElem?_eq_none (Nat.le_of_not_lt hi)]; omega
end Go.Proofs.Ytopkfhnnapncgaa.L
