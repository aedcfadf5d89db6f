/-
  The laws' own help on a size with a list of sets. Condition: lists of at most 2^44 elements.
-/
import Derived.Test.YteggmbhcnhbamaaFx6
import Derived.Test.YteggmbhcnhbamaaFx2
import Derived.Test.YteggmbhcnhbamaaFx8
import Derived.Test.YteggmbhcnhbamaaFx17
import Derived.Test.YteggmbhcnhbamaaLLists
import Derived.Test.YteggmbhcnhbamaaLMark
namespace Go.Proofs.Yteggmbhcnhbamaa.L
open Go.RowKit Go.Proofs.Yteggmbhcnhbamaa.F Go.Proofs.YteggmbhcnhbamaaW.PrintWords Go.Proofs.YteggmbhcnhbamaaW.PrintLast Go.Proofs.YteggmbhcnhbamaaW.PrintMore
open Go.Proofs.Yteggmbhcnhbamaa.Bits
set_option linter.unusedSimpArgs false
theorem szMatroid (n : Int) (l : List Int) (h : l.length ≤ 17592186044416) : ∃ m, laws_szMatroid.f n l 1048576 = some m ∧ (m < 0 ∨ (0 ≤ m ∧ l.length ≤ 1048576)) := by
  unfold laws_szMatroid.f
  rw [szIntS l 1048576 h (by decide) (by decide)]
  simp only [Option.bind_some]
  by_cases hn : (1048576 : Int) < (l.length : Int)
  · rw [if_pos hn, if_pos (by decide)]; exact ⟨_, rfl, .inl (by decide)⟩
  · rw [if_neg hn, if_neg (by omega)]; exact ⟨_, rfl, .inr (by omega)⟩
theorem szM (n : Int) (l : List Int) (m0 : Int) (h : l.length ≤ 17592186044416) (h0 : 0 ≤ m0) (h1 : m0 ≤ 1048576) : ∃ m, laws_szMatroid.f n l m0 = some m ∧ (m < 0 ∨ (0 ≤ m ∧ m ≤ m0)) := by
  unfold laws_szMatroid.f
  rw [szIntS l m0 h h0 h1]
  simp only [Option.bind_some]
  by_cases hn : m0 < (l.length : Int)
  · rw [if_pos hn, if_pos (by decide)]; exact ⟨_, rfl, .inl (by decide)⟩
  · rw [if_neg hn, if_neg (by omega)]; exact ⟨_, rfl, .inr (by omega)⟩
theorem toMatroid (n : Int) (l : List Int) (h : l.length ≤ 17592186044416) : Ev (fun k => laws_toMatroid.f k n l) (n, l) := by
  unfold laws_toMatroid.f; exact Ev.bind (toIntS l h) (Ev.now _)
theorem eqMatroid (n : Int) (l : List Int) (h : l.length ≤ 17592186044416) : Ev (fun k => laws_eqMatroid.f k n l n l) true := by
  unfold laws_eqMatroid.f
  simp only [if_true]
  refine Ev.bind (eqIntS l l h) ?_
  simp only [decide_true, if_true]; exact Ev.now _
theorem markMatroid (n : Int) (l : List Int) (h : l.length ≤ 17592186044416) : Ev (fun k => laws_markMatroid.f k n l 1) (1 + l.length, markL l.length 1) := by
  unfold laws_markMatroid.f; exact Ev.bind (markIntS l 1 h (by decide) (by decide)) (Ev.now _)
theorem heldMatroid (n : Int) (m : Nat) (h : m ≤ 17592186044416) : Ev (fun k => laws_heldMatroid.f k n (markL m 1) 1) (1 + m) := by
  unfold laws_heldMatroid.f
  refine Ev.bind (heldIntS m 1 h (by decide) (by decide)) ?_
  rw [if_neg (by omega)]; exact Ev.now _
end Go.Proofs.Yteggmbhcnhbamaa.L
