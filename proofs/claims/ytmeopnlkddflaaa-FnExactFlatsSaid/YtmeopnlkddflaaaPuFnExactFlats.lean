/-
  laws.FnExactFlats, as a statement on numbers and lists. No condition but what every argument meets.
-/
import Derived.Test.YtmeopnlkddflaaaFx39
import Derived.Test.YtmeopnlkddflaaaFx5
import Derived.Test.YtmeopnlkddflaaaFx1
import Derived.Test.YtmeopnlkddflaaaFx7
import Derived.Test.YtmeopnlkddflaaaLFlats
import Derived.Test.YtmeopnlkddflaaaLLists
import Derived.Test.YtmeopnlkddflaaaLMark
namespace Go.Proofs.Ytmeopnlkddflaaa.L
open Go.RowKit Go.Proofs.Ytmeopnlkddflaaa.F Go.Proofs.YtmeopnlkddflaaaW.PrintWords Go.Proofs.YtmeopnlkddflaaaW.PrintLast Go.Proofs.YtmeopnlkddflaaaW.PrintMore
open Go.Proofs.Ytmeopnlkddflaaa.Bits
set_option linter.unusedSimpArgs false
theorem szMatroid (n : Int) (l : List Int) (h : l.length ≤ 17592186044416) : ∃ m, laws_szMatroid.f n l 1048576 = some m ∧ (m < 0 ∨ (0 ≤ m ∧ l.length ≤ 1048576)) := by
  unfold laws_szMatroid.f
  rw [szIntS l 1048576 h (by decide) (by decide)]
  simp only [Option.bind_some]
  by_cases hn : (1048576 : Int) < (l.length : Int)
  · rw [if_pos hn, if_pos (by decide)]; exact ⟨_, rfl, .inl (by decide)⟩
  · rw [if_neg hn, if_neg (by omega)]; exact ⟨_, rfl, .inr (by omega)⟩
theorem toMatroid (n : Int) (l : List Int) (h : l.length ≤ 17592186044416) : Ev (fun k => laws_toMatroid.f k n l) (n, l) := by
  unfold laws_toMatroid.f; exact Ev.bind (toIntS l h) (Ev.now _)
theorem eqMatroid (n : Int) (l : List Int) (h : l.length ≤ 17592186044416) : Ev (fun k => laws_eqMatroid.f k n l n l) true := by
  unfold laws_eqMatroid.f
  simp only [if_true]
  refine Ev.bind (eqIntS l l h) ?_
  simp only [decide_true, if_true]; exact Ev.now _
theorem markMatroid (n : Int) (l : List Int) (h : l.length ≤ 17592186044416) : Ev (fun k => laws_markMatroid.f k n l 1) (1 + l.length, markL l.length 1) := by
  unfold laws_markMatroid.f; exact Ev.bind (markIntS l 1 h (by decide) (by decide)) (Ev.now _)
end Go.Proofs.Ytmeopnlkddflaaa.L
namespace Go.Proofs.Ytmeopnlkddflaaa.Pure
open Go.RowKit Go.Proofs.Ytmeopnlkddflaaa.F Go.Proofs.Ytmeopnlkddflaaa.L Go.Proofs.YtmeopnlkddflaaaW.PrintWords Go.Proofs.YtmeopnlkddflaaaW.PrintLast Go.Proofs.YtmeopnlkddflaaaW.PrintMore
theorem FnExactFlats (n : Int) (l : List Int) (_ : (Lit.int .i64 n).wf = true) (hl : l.length * 8 ≤ 140737488351232) (_ : ∀ x ∈ l, (Lit.int .i64 x).wf = true) :
    ∃ k, laws_FnExactFlats.f k n l = some true := by
  have h1 : l.length ≤ 17592186044416 := by omega
  refine Ev.rounds ?_
  unfold laws_FnExactFlats.f
  obtain ⟨m, hm, hx⟩ := szMatroid n l h1
  simp only [hm, Option.bind_some]
  by_cases h : m < 0
  · simp only [h, if_true]; exact Ev.now _
  simp only [h, if_false]
  have hi := Flats_i n l h1
  have h2 := flatsI_length n l
  refine Ev.bind (toMatroid n l h1) (Ev.bind (Flats_s n l h1) (Ev.bind (toMatroid n l h1) (Ev.bind hi ?_)))
  generalize flatsI n l = t at hi h2 ⊢
  have he := eqIntS t t h2
  simp only [decide_true] at he
  have hh := heldIntS t.length 1 h2 (by omega) (by omega)
  refine Ev.bind he ?_
  simp only [if_true]
  refine Ev.bind (toMatroid n l h1) (Ev.bind (eqMatroid n l h1) ?_)
  simp only [if_true]
  refine Ev.bind (markMatroid n l h1) ?_
  simp only [show ¬ (1 + (l.length : Int) < 0) by omega, if_false]
  refine Ev.bind he ?_
  refine Ev.succ ?_
  simp only [laws_FnExactFlats.j0, Bool.not_true, Bool.false_eq_true, if_false]
  refine Ev.bind (markIntS t 1 h2 (by omega) (by omega)) (Ev.bind hh ?_)
  simp only [show ¬ (1 + (t.length : Int) < 0) by omega, if_false, if_true]
  refine Ev.bind (toMatroid n l h1) (Ev.bind hi (Ev.bind he ?_))
  simp only [if_true]
  refine Ev.bind hh ?_
  simp only [show ¬ (1 + (t.length : Int) < 0) by omega, if_false, if_true]
  exact Ev.now _
end Go.Proofs.Ytmeopnlkddflaaa.Pure
