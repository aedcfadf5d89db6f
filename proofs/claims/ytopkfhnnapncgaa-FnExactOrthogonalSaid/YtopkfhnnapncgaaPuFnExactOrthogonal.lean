/-
  laws.FnExactOrthogonal, as a statement on numbers and lists. No condition but what every argument meets.
-/
import Derived.Test.YtopkfhnnapncgaaFx14
import Derived.Test.YtopkfhnnapncgaaLOrth
namespace Go.Proofs.Ytopkfhnnapncgaa.Pure
open Go.RowKit Go.Proofs.Ytopkfhnnapncgaa.F Go.Proofs.Ytopkfhnnapncgaa.L Go.Proofs.YtopkfhnnapncgaaW.PrintWords Go.Proofs.YtopkfhnnapncgaaW.PrintLast Go.Proofs.YtopkfhnnapncgaaW.PrintMore
theorem FnExactOrthogonal (p r c : Int) (l : List Int) (p' r' c' : Int) (l' : List Int) (_ : (Lit.int .i64 p).wf = true) (_ : (Lit.int .i64 r).wf = true) (_ : (Lit.int .i64 c).wf = true) (hl : l.length * 8 ≤ 140737488351232) (_ : ∀ x ∈ l, (Lit.int .i64 x).wf = true)
    (_ : (Lit.int .i64 p').wf = true) (_ : (Lit.int .i64 r').wf = true) (_ : (Lit.int .i64 c').wf = true) (hl' : l'.length * 8 ≤ 140737488351232) (_ : ∀ x ∈ l', (Lit.int .i64 x).wf = true) :
    ∃ k, laws_FnExactOrthogonal.f k p r c l p' r' c' l' = some true := by
  have h1 : l.length ≤ 17592186044416 := by omega
  have h2 : l'.length ≤ 17592186044416 := by omega
  refine Ev.rounds ?_
  unfold laws_FnExactOrthogonal.f
  obtain ⟨n, hn, hb⟩ := szMatrix p r c l 1048576 h1 (by decide) (by decide)
  simp only [hn, Option.bind_some]
  by_cases h : n < 0
  · simp only [h, if_true]; exact Ev.now _
  obtain ⟨m, hm, _⟩ := szMatrix p' r' c' l' n h2 (by omega) (by omega)
  simp only [h, if_false, hm, Option.bind_some]
  by_cases h' : m < 0
  · simp only [h', if_true]; exact Ev.now _
  simp only [h', if_false]
  refine Ev.bind (toMatrix p r c l h1) (Ev.bind (toMatrix p' r' c' l' h2) (Ev.bind (Orthogonal_s p r c l p' r' c' l') (Ev.bind (toMatrix p r c l h1) (Ev.bind (toMatrix p' r' c' l' h2) (Ev.bind (Orthogonal_i p r c l p' r' c' l') ?_)))))
  simp only [bne_self_eq_false, Bool.false_eq_true, if_false]
  refine Ev.bind (toMatrix p r c l h1) (Ev.bind (eqMatrix p r c l p r c l h1) ?_)
  simp only [decide_true, if_true]
  refine Ev.bind (toMatrix p' r' c' l' h2) (Ev.bind (eqMatrix p' r' c' l' p' r' c' l' h2) ?_)
  simp only [decide_true, if_true]
  exact Ev.now _
end Go.Proofs.Ytopkfhnnapncgaa.Pure
