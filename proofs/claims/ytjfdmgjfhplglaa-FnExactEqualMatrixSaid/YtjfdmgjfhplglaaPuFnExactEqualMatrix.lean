/-
  laws.FnExactEqualMatrix, as a statement on numbers and lists. No condition but what every argument meets.
-/
import Derived.Test.YtjfdmgjfhplglaaFx8
import Derived.Test.YtjfdmgjfhplglaaLEqual
namespace Go.Proofs.Ytjfdmgjfhplglaa.Pure
open Go.RowKit Go.Proofs.Ytjfdmgjfhplglaa.F Go.Proofs.Ytjfdmgjfhplglaa.L Go.Proofs.YtjfdmgjfhplglaaW.PrintWords Go.Proofs.YtjfdmgjfhplglaaW.PrintLast Go.Proofs.YtjfdmgjfhplglaaW.PrintMore
theorem FnExactEqualMatrix (p r c : Int) (l : List Int) (p' r' c' : Int) (l' : List Int) (_ : (Lit.int .i64 p).wf = true) (_ : (Lit.int .i64 r).wf = true) (_ : (Lit.int .i64 c).wf = true) (hl : l.length * 8 ≤ 140737488351232) (_ : ∀ x ∈ l, (Lit.int .i64 x).wf = true)
    (_ : (Lit.int .i64 p').wf = true) (_ : (Lit.int .i64 r').wf = true) (_ : (Lit.int .i64 c').wf = true) (hl' : l'.length * 8 ≤ 140737488351232) (_ : ∀ x ∈ l', (Lit.int .i64 x).wf = true) :
    ∃ k, laws_FnExactEqualMatrix.f k p r c l p' r' c' l' = some true := by
  have h1 : l.length ≤ 17592186044416 := by omega
  have h2 : l'.length ≤ 17592186044416 := by omega
  refine Ev.rounds ?_
  unfold laws_FnExactEqualMatrix.f
  obtain ⟨n, hn, hb⟩ := szMatrix p r c l 1048576 h1 (by decide) (by decide)
  simp only [hn, Option.bind_some]
  by_cases h : n < 0
  · simp only [h, if_true]; exact Ev.now _
  obtain ⟨m, hm, _⟩ := szMatrix p' r' c' l' n h2 (by omega) (by omega)
  simp only [h, if_false, hm, Option.bind_some]
  by_cases h' : m < 0
  · simp only [h', if_true]; exact Ev.now _
  simp only [h', if_false]
  refine Ev.bind (toMatrix p r c l h1) (Ev.bind (toMatrix p' r' c' l' h2) (Ev.bind (EqualMatrix_s p r c l p' r' c' l' h1) (Ev.bind (toMatrix p r c l h1) (Ev.bind (toMatrix p' r' c' l' h2) (Ev.bind (EqualMatrix_i p r c l p' r' c' l' h1) ?_)))))
  simp only [bne_self_eq_false, Bool.false_eq_true, if_false]
  refine Ev.bind (toMatrix p r c l h1) (Ev.bind (eqMatrix p r c l p r c l h1) ?_)
  simp only [decide_true, if_true]
  refine Ev.bind (toMatrix p' r' c' l' h2) (Ev.bind (eqMatrix p' r' c' l' p' r' c' l' h2) ?_)
  simp only [decide_true, if_true]
  exact Ev.now _
end Go.Proofs.Ytjfdmgjfhplglaa.Pure
