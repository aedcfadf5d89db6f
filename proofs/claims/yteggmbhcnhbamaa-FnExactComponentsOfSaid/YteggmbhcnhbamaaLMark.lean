/-
  The laws' own marks: a list overwritten with rising numbers holds them. Condition: the marks stay below 2^62.
-/
import Derived.Test.YteggmbhcnhbamaaFx8
import Derived.Test.YteggmbhcnhbamaaLoops
namespace Go.Proofs.Yteggmbhcnhbamaa.L
open Go.RowKit Go.Proofs.Yteggmbhcnhbamaa.F Go.Proofs.YteggmbhcnhbamaaW.PrintWords Go.Proofs.YteggmbhcnhbamaaW.PrintLast Go.Proofs.YteggmbhcnhbamaaW.PrintMore
open Go.Proofs.Yteggmbhcnhbamaa.Bits
set_option linter.unusedSimpArgs false
/-- n numbers from m on. -/
def markL (n : Nat) (m : Int) : List Int := (List.range n).map fun i : Nat => m + (i : Int)
theorem markL_length (n : Nat) (m : Int) : (markL n m).length = n := by simp [markL]
theorem markL_get (n : Nat) (m : Int) (i : Nat) (h : i < n) : (markL n m).getD i 0 = m + i := by simp [markL, h]
theorem fold_mark (l : List Int) (m : Int) : ∀ n, n ≤ l.length → (List.range n).foldl (fun (s : List Int × Int) i => (s.1.set i s.2, s.2 + 1)) (l, m) = (markL n m ++ l.drop n, m + n)
  | 0, _ => by simp [markL]
  | n + 1, h => by
    rw [List.range_succ, List.foldl_append, fold_mark l m n (by omega)]
    simp only [List.foldl_cons, List.foldl_nil, Prod.mk.injEq]
    refine ⟨?_, by omega⟩
    rw [List.set_append_right _ _ (by rw [markL_length]; exact Nat.le_refl n), markL_length, Nat.sub_self, List.drop_eq_getElem_cons (by omega), List.set_cons_zero]
    simp [markL, List.range_succ]
theorem markIntS (l : List Int) (m : Int) (h : l.length ≤ 17592186044416) (h0 : 0 ≤ m) (h1 : m ≤ 140737488355328) : Ev (fun k => laws_markIntS.f k l m) (m + l.length, markL l.length m) := by
  unfold laws_markIntS.f
  have key := loop_fold0 (fun k (s : List Int × Int) i => laws_markIntS.l0 k s.1 s.2 i) l.length (fun s i => (s.1.set i s.2, s.2 + 1)) (fun i s => s.1.length = l.length ∧ s.2 = m + i) (fun s => (s.2, s.1))
    (fun s hs => by
      simp only [laws_markIntS.l0, hs.1, show ¬ ((l.length : Int) < (l.length : Int)) by omega, if_false]
      exact Ev.now _)
    (fun i s hi hs => ⟨⟨by simp [hs.1], by simp only [hs.2]; omega⟩, fun r hr => by
      have hw : wrap64 (s.2 + 1) = s.2 + 1 := wrap_in (by omega) (by omega)
      simp only [laws_markIntS.l0, hs.1, show ((i : Int) < (l.length : Int)) by omega, show (0 : Int) ≤ (i : Int) by omega, if_true, Int.toNat_natCast, hw, wrap_succ (show i < 9223372036854775807 by omega)]
      exact hr⟩) (l, m) ⟨rfl, by simp⟩
  rw [fold_mark l m l.length (Nat.le_refl _)] at key
  simpa using key
theorem heldIntS (n : Nat) (m : Int) (h : n ≤ 17592186044416) (h0 : 0 ≤ m) (h1 : m ≤ 140737488355328) : Ev (fun k => laws_heldIntS.f k (markL n m) m) (m + n) := by
  unfold laws_heldIntS.f
  have key := loop_fold0 (fun k (s : Int) i => laws_heldIntS.l0 k (markL n m) s i) n (fun s _ => s + 1) (fun i s => s = m + i) id
    (fun s hs => by
      simp only [laws_heldIntS.l0, markL_length, show ¬ ((n : Int) < (n : Int)) by omega, if_false]
      exact Ev.now _)
    (fun i s hi hs => ⟨by rw [hs]; omega, fun r hr => by
      have hw : wrap64 (s + 1) = s + 1 := wrap_in (by omega) (by omega)
      have hg : rd (markL n m) (i : Int) = s := by rw [rd_getD, markL_get n m i hi, hs]
      simp only [laws_heldIntS.l0, markL_length, hg, show ((i : Int) < (n : Int)) by omega, show (0 : Int) ≤ (i : Int) by omega, if_true, hw, wrap_succ (show i < 9223372036854775807 by omega)]
      exact hr⟩) m (by simp)
  have e : ∀ n : Nat, (List.range n).foldl (fun (s : Int) _ => s + 1) m = m + n := by
    intro n
    induction n with
    | zero => simp
    | succ n ih => rw [List.range_succ, List.foldl_append, ih]; simp; omega
  rw [e n] at key
  exact key
end Go.Proofs.Yteggmbhcnhbamaa.L
