/-
  laws.FnExactInverseIn, as a statement on numbers: both inverses are the same, at all pairs of whole numbers. No condition.
-/
import Derived.Test.YtjfdmgjfhplglaaFx1
namespace Go.Proofs.Ytjfdmgjfhplglaa.Pure
open Go.RowKit Go.Proofs.Ytjfdmgjfhplglaa.F Go.Proofs.YtjfdmgjfhplglaaW.PrintWords Go.Proofs.YtjfdmgjfhplglaaW.PrintLast Go.Proofs.YtjfdmgjfhplglaaW.PrintMore
set_option linter.unusedSimpArgs false

/-- The two loops on the 13 pairs that reach them. -/
theorem inverse_pairs : ∀ p ∈ [2, 3, 5, 7], ∀ a ∈ [1, 2, 3, 4, 5, 6], (a : Int) < p → laws_FnExactInverseIn.f 20 p a = some true := by
  decide +kernel

theorem FnExactInverseIn (p a : Int) (_ : (Lit.int .i64 p).wf = true) (_ : (Lit.int .i64 a).wf = true) : ∃ k, laws_FnExactInverseIn.f k p a = some true := by
  refine ⟨20, ?_⟩
  by_cases hp : p = 2 ∨ p = 3 ∨ p = 5 ∨ p = 7
  · by_cases ha : 1 ≤ a ∧ a < p
    · refine inverse_pairs p ?_ a ?_ ha.2
      · simpa using hp
      · simp; omega
    · have hw : wrap64 (p - 1) = p - 1 := by unfold wrap64; omega
      have hf : impl_isField.f p = some true := by unfold impl_isField.f; repeat' split; all_goals simp; all_goals omega
      have hg : spec_l12Prime.f p = some true := by unfold spec_l12Prime.f; repeat' split; all_goals simp; all_goals omega
      by_cases h1 : a < 1
      · simp [laws_FnExactInverseIn.f, spec_InverseIn.f, impl_InverseIn.f, hf, hg, hw, spec_l1In.f, h1, spec_InverseIn.j0, impl_InverseIn.j0, show ¬ (a ≥ 1) by omega]
      · have h2 : ¬ a ≤ p - 1 := by omega
        simp [laws_FnExactInverseIn.f, spec_InverseIn.f, impl_InverseIn.f, hf, hg, hw, spec_l1In.f, h1, h2, spec_InverseIn.j0, impl_InverseIn.j0, show a ≥ 1 by omega, show a ≥ p by omega]
  · have hf : impl_isField.f p = some false := by unfold impl_isField.f; rw [if_neg (by omega), if_neg (by omega), if_neg (by omega)]; simp; omega
    have hg : spec_l12Prime.f p = some false := by unfold spec_l12Prime.f; rw [if_neg (by omega), if_neg (by omega), if_neg (by omega)]; simp; omega
    simp [laws_FnExactInverseIn.f, spec_InverseIn.f, impl_InverseIn.f, hf, hg, spec_InverseIn.j0, impl_InverseIn.j0]

end Go.Proofs.Ytjfdmgjfhplglaa.Pure
