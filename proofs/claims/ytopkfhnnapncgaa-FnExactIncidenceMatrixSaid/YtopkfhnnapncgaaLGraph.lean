/-
  What a graph is, as both functions answer; the laws' own copy, comparison and size of graphs. No condition but the lists' lengths.
-/
import Derived.Test.YtopkfhnnapncgaaFx5
import Derived.Test.YtopkfhnnapncgaaLSets
import Derived.Test.YtopkfhnnapncgaaLLists
namespace Go.Proofs.Ytopkfhnnapncgaa.L
open Go.RowKit Go.Proofs.Ytopkfhnnapncgaa.F Go.Proofs.YtopkfhnnapncgaaW.PrintWords Go.Proofs.YtopkfhnnapncgaaW.PrintLast Go.Proofs.YtopkfhnnapncgaaW.PrintMore
open Go.Proofs.Ytopkfhnnapncgaa.Bits
set_option linter.unusedSimpArgs false
set_option linter.unusedVariables false
/-- What a graph is: vertices from 0 to 6, at most eight edges, the ends among the vertices. -/
def isGraph (v : Int) (a b : List Int) : Bool :=
  decide (0 ≤ v ∧ v ≤ 6 ∧ a.length ≤ 8 ∧ a.length = b.length) && (List.range a.length).all fun i => decide (0 ≤ a.getD i 0 ∧ a.getD i 0 < v ∧ 0 ≤ b.getD i 0 ∧ b.getD i 0 < v)
theorem IsGraph_s (v : Int) (a b : List Int) : Ev (fun k => spec_IsGraph.f k v a b) (isGraph v a b) := by
  have no : ∀ v a b, Ev (fun k => spec_IsGraph.j0 k true v a b) false := fun v a b => Ev.succ (by simp only [spec_IsGraph.j0, if_true]; exact Ev.now _)
  unfold spec_IsGraph.f isGraph
  simp only [l1In, Option.bind_some, decide_eq_true_eq]
  by_cases hv : 0 ≤ v ∧ v ≤ 6
  · simp only [hv, and_self, if_true, true_and]
    by_cases h8 : a.length ≤ 8
    · simp only [show ¬ ((a.length : Int) > 8) by omega, if_false, h8, true_and]
      by_cases he : a.length = b.length
      · rw [show ((a.length : Int) != (b.length : Int)) = false by simp; omega]
        refine Ev.succ ?_
        simp only [spec_IsGraph.j0, Bool.false_eq_true, if_false, he, decide_true, Bool.true_and]
        rw [← he]
        refine loop_all0 (fun k i => spec_IsGraph.l0 k i v a b) _ _ (fun k => by simp only [spec_IsGraph.l0, show ¬ ((a.length : Int) < (a.length : Int)) by omega, if_false]) ?_
        intro i hi k
        have hw : wrap64 (v - 1) = v - 1 := wrap_in (by omega) (by omega)
        simp only [spec_IsGraph.l0, show ((i : Int) < (a.length : Int)) by omega, show ((i : Int) < (b.length : Int)) by omega, show (0 : Int) ≤ (i : Int) by omega, if_true, rd_getD, wrap_succ (show i < 9223372036854775807 by omega), l1In, hw, Option.bind_some, decide_eq_true_eq]
        generalize a.getD i 0 = x
        generalize b.getD i 0 = y
        by_cases h1 : 0 ≤ x ∧ x ≤ v - 1
        · rw [if_pos h1]
          by_cases h2 : 0 ≤ y ∧ y ≤ v - 1
          · rw [if_pos h2, if_pos (by omega)]
          · rw [if_neg h2, if_neg (by omega)]
        · rw [if_neg h1, if_neg (by omega)]
      · rw [show ((a.length : Int) != (b.length : Int)) = true by simp; omega]
        simp only [he, decide_false, Bool.false_and]
        exact no _ _ _
    · simp only [show ((a.length : Int) > 8) by omega, if_true, h8, false_and, decide_false, Bool.false_and]
      exact no _ _ _
  · simp only [hv, if_false, show ¬ (0 ≤ v ∧ v ≤ 6 ∧ a.length ≤ 8 ∧ a.length = b.length) by omega, decide_false, Bool.false_and]
    exact no _ _ _
theorem IsGraph_i (v : Int) (a b : List Int) : Ev (fun k => impl_IsGraph.f k v a b) (isGraph v a b) := by
  have no : ∀ v a b, Ev (fun k => impl_IsGraph.j0 k true v a b) false := fun v a b => Ev.succ (by simp only [impl_IsGraph.j0, if_true]; exact Ev.now _)
  unfold impl_IsGraph.f isGraph
  by_cases hv : 0 ≤ v ∧ v ≤ 6
  · simp only [show ¬ v < 0 by omega, show ¬ v > 6 by omega, if_false, hv, true_and]
    by_cases h8 : a.length ≤ 8
    · simp only [show ¬ ((a.length : Int) > 8) by omega, if_false, h8, true_and]
      by_cases he : a.length = b.length
      · rw [show ((a.length : Int) != (b.length : Int)) = false by simp; omega]
        refine Ev.succ ?_
        simp only [impl_IsGraph.j0, Bool.false_eq_true, if_false, he, decide_true, Bool.true_and]
        rw [← he]
        refine loop_all0 (fun k i => impl_IsGraph.l0 k (a.length : Int) i v a b) _ _ (fun k => by simp only [impl_IsGraph.l0, show ¬ ((a.length : Int) < (a.length : Int)) by omega, if_false]) ?_
        intro i hi k
        simp only [impl_IsGraph.l0, show ((i : Int) < (a.length : Int)) by omega, show ((i : Int) < (b.length : Int)) by omega, show (0 : Int) ≤ (i : Int) by omega, if_true, rd_getD, wrap_succ (show i < 9223372036854775807 by omega), decide_eq_true_eq]
        generalize a.getD i 0 = x
        generalize b.getD i 0 = y
        by_cases h1 : x < 0
        · rw [if_pos h1, if_neg (by omega)]
        rw [if_neg h1]
        by_cases h2 : x ≥ v
        · rw [if_pos h2, if_neg (by omega)]
        rw [if_neg h2]
        by_cases h3 : y < 0
        · rw [if_pos h3, if_neg (by omega)]
        rw [if_neg h3]
        by_cases h4 : y ≥ v
        · rw [if_pos h4, if_neg (by omega)]
        rw [if_neg h4, if_pos (by omega)]
      · rw [show ((a.length : Int) != (b.length : Int)) = true by simp; omega]
        simp only [he, decide_false, Bool.false_and]
        exact no _ _ _
    · simp only [show ((a.length : Int) > 8) by omega, if_true, h8, false_and, decide_false, Bool.false_and]
      exact no _ _ _
  · simp only [show ¬ (0 ≤ v ∧ v ≤ 6 ∧ a.length ≤ 8 ∧ a.length = b.length) by omega, decide_false, Bool.false_and]
    by_cases h1 : v < 0
    · simp only [h1, if_true]; exact no _ _ _
    · simp only [h1, if_false, show v > 6 by omega, if_true]; exact no _ _ _
theorem toGraph (v : Int) (a b : List Int) (ha : a.length ≤ 17592186044416) (hb : b.length ≤ 17592186044416) : Ev (fun k => laws_toGraph.f k v a b) (v, a, b) := by
  unfold laws_toGraph.f
  exact Ev.bind (toIntS a ha) (Ev.bind (toIntS b hb) (Ev.now _))
theorem eqGraph (v : Int) (a b : List Int) (ha : a.length ≤ 17592186044416) (hb : b.length ≤ 17592186044416) : Ev (fun k => laws_eqGraph.f k v a b v a b) true := by
  unfold laws_eqGraph.f
  simp only [if_true]
  refine Ev.bind (eqIntS a a ha) ?_
  simp only [decide_true, if_true]
  refine Ev.bind (eqIntS b b hb) ?_
  simp only [decide_true, if_true]
  exact Ev.now _
theorem szGraph (v : Int) (a b : List Int) (ha : a.length ≤ 17592186044416) (hb : b.length ≤ 17592186044416) : ∃ n, laws_szGraph.f v a b 1048576 = some n ∧ (n < 0 ∨ (0 ≤ n ∧ n ≤ 1048576 ∧ a.length ≤ 1048576 ∧ b.length ≤ 1048576)) := by
  unfold laws_szGraph.f
  rw [szIntS a _ ha (by decide) (by decide)]
  simp only [Option.bind_some]
  by_cases h1 : (1048576 : Int) < (a.length : Int)
  · rw [if_pos h1, if_pos (by decide)]; exact ⟨_, rfl, .inl (by decide)⟩
  · rw [if_neg h1, if_neg (by omega), szIntS b _ hb (by omega) (by omega)]
    simp only [Option.bind_some]
    by_cases h2 : (1048576 : Int) - (a.length : Int) < (b.length : Int)
    · rw [if_pos h2, if_pos (by decide)]; exact ⟨_, rfl, .inl (by decide)⟩
    · rw [if_neg h2, if_neg (by omega)]; exact ⟨_, rfl, .inr (by omega)⟩
/-- What a graph holds, in natural numbers. -/
theorem graph_parts {v : Int} {a b : List Int} (h : isGraph v a b = true) : ∃ V : Nat, v = V ∧ V ≤ 6 ∧ a.length ≤ 8 ∧ a.length = b.length ∧ ∀ i, i < a.length → (0 ≤ a.getD i 0 ∧ a.getD i 0 < V ∧ 0 ≤ b.getD i 0 ∧ b.getD i 0 < V) := by
  unfold isGraph at h
  simp only [Bool.and_eq_true, decide_eq_true_eq] at h
  obtain ⟨⟨h1, h2, h3, h4⟩, h5⟩ := h
  obtain ⟨V, rfl⟩ := Int.eq_ofNat_of_zero_le h1
  refine ⟨V, rfl, by omega, h3, h4, fun i hi => ?_⟩
  have := List.all_eq_true.1 h5 i (by simpa using hi)
  simpa using this
end Go.Proofs.Ytopkfhnnapncgaa.L
