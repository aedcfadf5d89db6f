/-
  A matroid's first base. No condition.
-/
import Derived.Test.YteggmbhcnhbamaaLRank
namespace Go.Proofs.Yteggmbhcnhbamaa.L
open Go.RowKit Go.Proofs.Yteggmbhcnhbamaa.F Go.Proofs.YteggmbhcnhbamaaW.PrintWords Go.Proofs.YteggmbhcnhbamaaW.PrintLast Go.Proofs.YteggmbhcnhbamaaW.PrintMore
open Go.Proofs.Yteggmbhcnhbamaa.Mt (Mat)
theorem head_mem {N : Nat} {B : List Nat} (M : Mat N B) : ∃ b, b ∈ B ∧ 0 < B.length ∧ rd (ints B) 0 = (b : Int) := by
  have hne := M.ne
  cases B with
  | nil => exact absurd rfl hne
  | cons b t => exact ⟨b, List.mem_cons_self .., by simp, by simp [ints, rd]⟩
end Go.Proofs.Yteggmbhcnhbamaa.L
