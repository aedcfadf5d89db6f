/-
  laws.FnExactIncidenceMatrix, as a statement on numbers and lists. No condition but what every argument meets.
-/
import Derived.Test.YtopkfhnnapncgaaFx18
import Derived.Test.YtopkfhnnapncgaaLIncidence
import Derived.Test.YtopkfhnnapncgaaLMark
namespace Go.Proofs.Ytopkfhnnapncgaa.Pure
open Go.RowKit Go.Proofs.Ytopkfhnnapncgaa.F Go.Proofs.Ytopkfhnnapncgaa.L Go.Proofs.YtopkfhnnapncgaaW.PrintWords Go.Proofs.YtopkfhnnapncgaaW.PrintLast Go.Proofs.YtopkfhnnapncgaaW.PrintMore
theorem FnExactIncidenceMatrix (v : Int) (a b : List Int) (_ : (Lit.int .i64 v).wf = true) (ha : a.length * 8 ≤ 140737488351232) (_ : ∀ x ∈ a, (Lit.int .i64 x).wf = true) (hb : b.length * 8 ≤ 140737488351232) (_ : ∀ x ∈ b, (Lit.int .i64 x).wf = true) :
    ∃ k, laws_FnExactIncidenceMatrix.f k v a b = some true := by
  have h1 : a.length ≤ 17592186044416 := by omega
  have h2 : b.length ≤ 17592186044416 := by omega
  refine Ev.rounds ?_
  unfold laws_FnExactIncidenceMatrix.f
  obtain ⟨n, hn, hx⟩ := szGraph v a b h1 h2
  simp only [hn, Option.bind_some]
  by_cases h : n < 0
  · simp only [h, if_true]; exact Ev.now _
  simp only [h, if_false]
  have hl : (incM v a b).2.2.2.1.length ≤ 17592186044416 := incM_length v a b
  refine Ev.bind (toGraph v a b h1 h2) (Ev.bind (Incidence_s v a b) (Ev.bind (toGraph v a b h1 h2) (Ev.bind (Incidence_i v a b) ?_)))
  have hi := Incidence_i v a b
  generalize incM v a b = m at hl hi
  obtain ⟨p, r, c, l, o⟩ := m
  simp only at hl hi ⊢
  refine Ev.bind (eqMatrix p r c l p r c l hl) ?_
  simp only [decide_true, if_true, bne_self_eq_false]
  refine Ev.succ ?_
  simp only [laws_FnExactIncidenceMatrix.j0, Bool.false_eq_true, if_false]
  refine Ev.bind (toGraph v a b h1 h2) (Ev.bind (eqGraph v a b h1 h2) ?_)
  simp only [if_true]
  have hg : Ev (fun k => laws_markGraph.f k v a b 1) (1 + a.length + b.length, markL a.length 1, markL b.length (1 + a.length)) := by
    unfold laws_markGraph.f
    exact Ev.bind (markIntS a 1 h1 (by omega) (by omega)) (Ev.bind (markIntS b (1 + a.length) h2 (by omega) (by omega)) (Ev.now _))
  have hmk : Ev (fun k => laws_markMatrix.f k p r c l 1) (1 + l.length, markL l.length 1) := by
    unfold laws_markMatrix.f
    exact Ev.bind (markIntS l 1 hl (by omega) (by omega)) (Ev.now _)
  have hhd : Ev (fun k => laws_heldMatrix.f k p r c (markL l.length 1) 1) (1 + l.length) := by
    unfold laws_heldMatrix.f
    refine Ev.bind (heldIntS l.length 1 hl (by omega) (by omega)) ?_
    simp only [show ¬ (1 + (l.length : Int) < 0) by omega, if_false]; exact Ev.now _
  refine Ev.bind hg ?_
  simp only [show ¬ (1 + (a.length : Int) + (b.length : Int) < 0) by omega, if_false]
  refine Ev.bind (eqMatrix p r c l p r c l hl) ?_
  simp only [decide_true, if_true, bne_self_eq_false]
  refine Ev.succ ?_
  simp only [laws_FnExactIncidenceMatrix.j1, Bool.false_eq_true, if_false]
  refine Ev.bind hmk (Ev.bind hhd ?_)
  simp only [show ¬ (1 + (l.length : Int) < 0) by omega, if_false, if_true]
  refine Ev.bind (toGraph v a b h1 h2) (Ev.bind hi (Ev.bind (eqMatrix p r c l p r c l hl) ?_))
  simp only [decide_true, if_true, bne_self_eq_false]
  refine Ev.succ ?_
  simp only [laws_FnExactIncidenceMatrix.j2, Bool.false_eq_true, if_false]
  refine Ev.bind hhd ?_
  simp only [show ¬ (1 + (l.length : Int) < 0) by omega, if_false, if_true]
  exact Ev.now _
end Go.Proofs.Ytopkfhnnapncgaa.Pure
