/-
  The laws' own helpers on lists of whole numbers: the copy is the list, the comparison is equality. Condition: a list of at most 2^44 elements.
-/
import Derived.Test.YteggmbhcnhbamaaFx6
import Derived.Test.YteggmbhcnhbamaaFx1
import Derived.Test.YteggmbhcnhbamaaFx2
import Derived.Test.YteggmbhcnhbamaaLoops
namespace Go.Proofs.Yteggmbhcnhbamaa.L
open Go.RowKit Go.Proofs.Yteggmbhcnhbamaa.F Go.Proofs.YteggmbhcnhbamaaW.PrintWords Go.Proofs.YteggmbhcnhbamaaW.PrintLast Go.Proofs.YteggmbhcnhbamaaW.PrintMore
open Go.Proofs.Yteggmbhcnhbamaa.Bits

theorem all_eq_range (l l' : List Int) (h : l.length = l'.length) : (List.range l.length).all (fun i => decide (l.getD i 0 = l'.getD i 0)) = decide (l = l') := by
  rw [Bool.eq_iff_iff, List.all_eq_true, decide_eq_true_iff]
  constructor
  · intro hh
    apply List.ext_getElem h
    intro i h1 h2
    have := hh i (by simpa using h1)
    simpa [List.getElem?_eq_getElem h1, List.getElem?_eq_getElem h2] using this
  · rintro rfl i _
    simp

theorem eqIntS (l l' : List Int) (h : l.length ≤ 17592186044416) : Ev (fun k => laws_eqIntS.f k l l') (decide (l = l')) := by
  unfold laws_eqIntS.f
  by_cases e : l.length = l'.length
  · simp only [show ((l.length : Int) = (l'.length : Int)) by omega, if_true]
    rw [← all_eq_range l l' e]
    refine loop_all0 _ _ _ (fun k => by simp only [laws_eqIntS.l0, show ¬ ((l.length : Int) < (l.length : Int)) by omega, if_false]) ?_
    intro i hi k
    simp only [laws_eqIntS.l0, show ((i : Int) < (l.length : Int)) by omega, show ((i : Int) < (l'.length : Int)) by omega, show (0 : Int) ≤ (i : Int) by omega, if_true, rd_getD, wrap_succ (show i < 9223372036854775807 by omega), decide_eq_true_eq]
  · simp only [show ¬ ((l.length : Int) = (l'.length : Int)) by omega, if_false]
    rw [show decide (l = l') = false by simp; rintro rfl; exact e rfl]
    exact Ev.now _

theorem szIntS (l : List Int) (n : Int) (h : l.length ≤ 17592186044416) (h0 : 0 ≤ n) (h1 : n ≤ 1048576) : laws_szIntS.f l n = some (if n < l.length then -1 else n - l.length) := by
  unfold laws_szIntS.f
  have hw : wrap64 (n - (l.length : Int)) = n - (l.length : Int) := wrap_in (by omega) (by omega)
  rw [hw]
  split
  · rw [if_pos (by omega)]
  · rw [if_neg (by omega)]

theorem fold_copy (l : List Int) : ∀ n, n ≤ l.length → (List.range n).foldl (fun a i => a.set i (l.getD i 0)) (List.replicate l.length 0) = l.take n ++ List.replicate (l.length - n) 0
  | 0, _ => by simp
  | n + 1, h => by
    rw [List.range_succ, List.foldl_append, fold_copy l n (by omega)]
    simp only [List.foldl_cons, List.foldl_nil]
    obtain ⟨m, hm⟩ : ∃ m, l.length - n = m + 1 := ⟨l.length - n - 1, by omega⟩
    rw [hm, List.replicate_succ, List.set_append_right _ _ (by simp; omega)]
    have : n - (List.take n l).length = 0 := by simp; omega
    rw [this, List.set_cons_zero, show l.length - (n + 1) = m by omega]
    have hg : l.getD n 0 = l[n] := by simp [List.getElem?_eq_getElem (show n < l.length by omega)]
    rw [List.take_succ_eq_append_getElem (by omega), List.append_assoc, List.singleton_append, hg]

theorem toIntS (l : List Int) (h : l.length ≤ 17592186044416) : Ev (fun k => laws_toIntS.f k l) l := by
  unfold laws_toIntS.f
  simp only [show (0 : Int) ≤ (l.length : Int) by omega, Int.toNat_natCast, show l.length ≤ 35184372088832 by omega, if_true]
  have key := loop_fold0 (fun k s i => laws_toIntS.l0 k l s i) l.length (fun a i => a.set i (l.getD i 0)) (fun _ s => s.length = l.length) id
    (fun s hs => by
      simp only [laws_toIntS.l0, show ¬ ((l.length : Int) < (l.length : Int)) by omega, if_false]
      exact Ev.now _)
    (fun i s hi hs => ⟨by simp [hs], fun r hr => by
      simp only [laws_toIntS.l0, show ((i : Int) < (l.length : Int)) by omega, show ((i : Int) < (s.length : Int)) by omega, show (0 : Int) ≤ (i : Int) by omega, if_true, Int.toNat_natCast, rd_getD, wrap_succ (show i < 9223372036854775807 by omega)]
      exact hr⟩) (List.replicate l.length 0) (by simp)
  rw [fold_copy l l.length (Nat.le_refl _)] at key
  simpa using key
end Go.Proofs.Yteggmbhcnhbamaa.L
