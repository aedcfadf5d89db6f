/-
  laws.FnExactIsGraph, as a statement on numbers and lists. No condition but what every argument meets.
-/
import Derived.Test.YtjfdmgjfhplglaaFx5
import Derived.Test.YtjfdmgjfhplglaaLSets
import Derived.Test.YtjfdmgjfhplglaaLLists
namespace Go.Proofs.Ytjfdmgjfhplglaa.L
open Go.RowKit Go.Proofs.Ytjfdmgjfhplglaa.F Go.Proofs.YtjfdmgjfhplglaaW.PrintWords Go.Proofs.YtjfdmgjfhplglaaW.PrintLast Go.Proofs.YtjfdmgjfhplglaaW.PrintMore
open Go.Proofs.Ytjfdmgjfhplglaa.Bits
/-- What a graph is: vertices from 0 to 6, at most eight edges, the ends among the vertices. -/
def isGraph (v : Int) (a b : List Int) : Bool :=
  decide (0 ≤ v ∧ v ≤ 6 ∧ a.length ≤ 8 ∧ a.length = b.length) && (List.range a.length).all fun i => decide (0 ≤ a.getD i 0 ∧ a.getD i 0 < v ∧ 0 ≤ b.getD i 0 ∧ b.getD i 0 < v)
theorem IsGraph_s (v : Int) (a b : List Int) : Ev (fun k => spec_IsGraph.f k v a b) (isGraph v a b) := by
  have no : ∀ v a b, Ev (fun k => spec_IsGraph.j0 k true v a b) false := fun v a b => Ev.succ (by simp only [spec_IsGraph.j0, if_true]; exact Ev.now _)
  unfold spec_IsGraph.f isGraph
  simp only [l1In, Option.bind_some, decide_eq_true_eq]
  by_cases hv : 0 ≤ v ∧ v ≤ 6
  · simp only [hv, and_self, if_true, true_and]
    by_cases h8 : a.length ≤ 8
    · simp only [show ¬ ((a.length : Int) > 8) by omega, if_false, h8, true_and]
      by_cases he : a.length = b.length
      · rw [show ((a.length : Int) != (b.length : Int)) = false by simp; omega]
        refine Ev.succ ?_
        simp only [spec_IsGraph.j0, Bool.false_eq_true, if_false, he, decide_true, Bool.true_and]
        rw [← he]
        refine loop_all0 (fun k i => spec_IsGraph.l0 k i v a b) _ _ (fun k => by simp only [spec_IsGraph.l0, show ¬ ((a.length : Int) < (a.length : Int)) by omega, if_false]) ?_
        intro i hi k
        have hw : wrap64 (v - 1) = v - 1 := wrap_in (by omega) (by omega)
        simp only [spec_IsGraph.l0, show ((i : Int) < (a.length : Int)) by omega, show ((i : Int) < (b.length : Int)) by omega, show (0 : Int) ≤ (i : Int) by omega, if_true, rd_getD, wrap_succ (show i < 9223372036854775807 by omega), l1In, hw, Option.bind_some, decide_eq_true_eq]
        generalize a.getD i 0 = x
        generalize b.getD i 0 = y
        by_cases h1 : 0 ≤ x ∧ x ≤ v - 1
        · rw [if_pos h1]
          by_cases h2 : 0 ≤ y ∧ y ≤ v - 1
          · rw [if_pos h2, if_pos (by omega)]
          · rw [if_neg h2, if_neg (by omega)]
        · rw [if_neg h1, if_neg (by omega)]
      · rw [show ((a.length : Int) != (b.length : Int)) = true by simp; omega]
        simp only [he, decide_false, Bool.false_and]
        exact no _ _ _
    · simp only [show ((a.length : Int) > 8) by omega, if_true, h8, false_and, decide_false, Bool.false_and]
      exact no _ _ _
  · simp only [hv, if_false, show ¬ (0 ≤ v ∧ v ≤ 6 ∧ a.length ≤ 8 ∧ a.length = b.length) by omega, decide_false, Bool.false_and]
    exact no _ _ _
theorem IsGraph_i (v : Int) (a b : List Int) : Ev (fun k => impl_IsGraph.f k v a b) (isGraph v a b) := by
  have no : ∀ v a b, Ev (fun k => impl_IsGraph.j0 k true v a b) false := fun v a b => Ev.succ (by simp only [impl_IsGraph.j0, if_true]; exact Ev.now _)
  unfold impl_IsGraph.f isGraph
  by_cases hv : 0 ≤ v ∧ v ≤ 6
  · simp only [show ¬ v < 0 by omega, show ¬ v > 6 by omega, if_false, hv, true_and]
    by_cases h8 : a.length ≤ 8
    · simp only [show ¬ ((a.length : Int) > 8) by omega, if_false, h8, true_and]
      by_cases he : a.length = b.length
      · rw [show ((a.length : Int) != (b.length : Int)) = false by simp; omega]
        refine Ev.succ ?_
        simp only [impl_IsGraph.j0, Bool.false_eq_true, if_false, he, decide_true, Bool.true_and]
        rw [← he]
        refine loop_all0 (fun k i => impl_IsGraph.l0 k (a.length : Int) i v a b) _ _ (fun k => by simp only [impl_IsGraph.l0, show ¬ ((a.length : Int) < (a.length : Int)) by omega, if_false]) ?_
        intro i hi k
        simp only [impl_IsGraph.l0, show ((i : Int) < (a.length : Int)) by omega, show ((i : Int) < (b.length : Int)) by omega, show (0 : Int) ≤ (i : Int) by omega, if_true, rd_getD, wrap_succ (show i < 9223372036854775807 by omega), decide_eq_true_eq]
        generalize a.getD i 0 = x
        generalize b.getD i 0 = y
        by_cases h1 : x < 0
        · rw [if_pos h1, if_neg (by omega)]
        rw [if_neg h1]
        by_cases h2 : x ≥ v
        · rw [if_pos h2, if_neg (by omega)]
        rw [if_neg h2]
        by_cases h3 : y < 0
        · rw [if_pos h3, if_neg (by omega)]
        rw [if_neg h3]
        by_cases h4 : y ≥ v
        · rw [if_pos h4, if_neg (by omega)]
        rw [if_neg h4, if_pos (by omega)]
      · rw [show ((a.length : Int) != (b.length : Int)) = true by simp; omega]
        simp only [he, decide_false, Bool.false_and]
        exact no _ _ _
    · simp only [show ((a.length : Int) > 8) by omega, if_true, h8, false_and, decide_false, Bool.false_and]
      exact no _ _ _
  · simp only [show ¬ (0 ≤ v ∧ v ≤ 6 ∧ a.length ≤ 8 ∧ a.length = b.length) by omega, decide_false, Bool.false_and]
    by_cases h1 : v < 0
    · simp only [h1, if_true]; exact no _ _ _
    · simp only [h1, if_false, show v > 6 by omega, if_true]; exact no _ _ _
theorem toGraph (v : Int) (a b : List Int) (ha : a.length ≤ 17592186044416) (hb : b.length ≤ 17592186044416) : Ev (fun k => laws_toGraph.f k v a b) (v, a, b) := by
  unfold laws_toGraph.f
  exact Ev.bind (toIntS a ha) (Ev.bind (toIntS b hb) (Ev.now _))
theorem eqGraph (v : Int) (a b : List Int) (ha : a.length ≤ 17592186044416) (hb : b.length ≤ 17592186044416) : Ev (fun k => laws_eqGraph.f k v a b v a b) true := by
  unfold laws_eqGraph.f
  simp only [if_true]
  refine Ev.bind (eqIntS a a ha) ?_
  simp only [decide_true, if_true]
  refine Ev.bind (eqIntS b b hb) ?_
  simp only [decide_true, if_true]
  exact Ev.now _
end Go.Proofs.Ytjfdmgjfhplglaa.L
namespace Go.Proofs.Ytjfdmgjfhplglaa.Pure
open Go.RowKit Go.Proofs.Ytjfdmgjfhplglaa.F Go.Proofs.Ytjfdmgjfhplglaa.L Go.Proofs.YtjfdmgjfhplglaaW.PrintWords Go.Proofs.YtjfdmgjfhplglaaW.PrintLast Go.Proofs.YtjfdmgjfhplglaaW.PrintMore
theorem FnExactIsGraph (v : Int) (a b : List Int) (_ : (Lit.int .i64 v).wf = true) (ha : a.length * 8 ≤ 140737488351232) (_ : ∀ x ∈ a, (Lit.int .i64 x).wf = true) (hb : b.length * 8 ≤ 140737488351232) (_ : ∀ x ∈ b, (Lit.int .i64 x).wf = true) :
    ∃ k, laws_FnExactIsGraph.f k v a b = some true := by
  have ha' : a.length ≤ 17592186044416 := by omega
  have hb' : b.length ≤ 17592186044416 := by omega
  refine Ev.rounds ?_
  unfold laws_FnExactIsGraph.f
  obtain ⟨n, hn⟩ : ∃ n, laws_szGraph.f v a b 1048576 = some n := by
    unfold laws_szGraph.f
    rw [szIntS a _ ha' (by decide) (by decide)]
    simp only [Option.bind_some]
    by_cases h1 : (1048576 : Int) < (a.length : Int)
    · rw [if_pos h1, if_pos (by decide)]; exact ⟨_, rfl⟩
    · rw [if_neg h1, if_neg (by omega), szIntS b _ hb' (by omega) (by omega)]
      simp only [Option.bind_some]
      by_cases h2 : (1048576 : Int) - (a.length : Int) < (b.length : Int)
      · rw [if_pos h2, if_pos (by decide)]; exact ⟨_, rfl⟩
      · rw [if_neg h2, if_neg (by omega)]; exact ⟨_, rfl⟩
  simp only [hn, Option.bind_some]
  by_cases h : n < 0
  · simp only [h, if_true]; exact Ev.now _
  simp only [h, if_false]
  refine Ev.bind (toGraph v a b ha' hb') (Ev.bind (IsGraph_s v a b) (Ev.bind (toGraph v a b ha' hb') (Ev.bind (IsGraph_i v a b) ?_)))
  simp only [bne_self_eq_false, Bool.false_eq_true, if_false]
  refine Ev.bind (toGraph v a b ha' hb') (Ev.bind (eqGraph v a b ha' hb') ?_)
  simp only [if_true]
  exact Ev.now _
end Go.Proofs.Ytjfdmgjfhplglaa.Pure
