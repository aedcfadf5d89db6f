/-
  laws.FnExactPiecesOf, as a statement on numbers and lists. No condition but what every argument meets.
-/
import Derived.Test.YtopkfhnnapncgaaFx16
import Derived.Test.YtopkfhnnapncgaaLPieces
namespace Go.Proofs.Ytopkfhnnapncgaa.Pure
open Go.RowKit Go.Proofs.Ytopkfhnnapncgaa.F Go.Proofs.Ytopkfhnnapncgaa.L Go.Proofs.YtopkfhnnapncgaaW.PrintWords Go.Proofs.YtopkfhnnapncgaaW.PrintLast Go.Proofs.YtopkfhnnapncgaaW.PrintMore
theorem FnExactPiecesOf (v : Int) (a b : List Int) (s : Int) (_ : (Lit.int .i64 v).wf = true) (ha : a.length * 8 ≤ 140737488351232) (_ : ∀ x ∈ a, (Lit.int .i64 x).wf = true) (hb : b.length * 8 ≤ 140737488351232) (_ : ∀ x ∈ b, (Lit.int .i64 x).wf = true) (_ : (Lit.int .i64 s).wf = true) :
    ∃ k, laws_FnExactPiecesOf.f k v a b s = some true := by
  have ha' : a.length ≤ 17592186044416 := by omega
  have hb' : b.length ≤ 17592186044416 := by omega
  refine Ev.rounds ?_
  unfold laws_FnExactPiecesOf.f
  obtain ⟨n, hn, _⟩ := szGraph v a b ha' hb'
  simp only [hn, Option.bind_some]
  by_cases h : n < 0
  · simp only [h, if_true]; exact Ev.now _
  simp only [h, if_false]
  refine Ev.bind (toGraph v a b ha' hb') (Ev.bind (PiecesOf_s v a b s) (Ev.bind (toGraph v a b ha' hb') (Ev.bind (PiecesOf_i v a b s) ?_)))
  simp only [if_true]
  refine Ev.bind (toGraph v a b ha' hb') (Ev.bind (eqGraph v a b ha' hb') ?_)
  simp only [if_true]
  exact Ev.now _
end Go.Proofs.Ytopkfhnnapncgaa.Pure
