/-
  Orthogonal, of the program and of the reference: of any two matrices both answer the same. Condition: lists of at most 2^44 elements.
-/
import Derived.Test.YtopkfhnnapncgaaFx13
import Derived.Test.YtopkfhnnapncgaaLMatrix
namespace Go.Proofs.Ytopkfhnnapncgaa.L
open Go.RowKit Go.Proofs.Ytopkfhnnapncgaa.F Go.Proofs.YtopkfhnnapncgaaW.PrintWords Go.Proofs.YtopkfhnnapncgaaW.PrintLast Go.Proofs.YtopkfhnnapncgaaW.PrintMore
open Go.Proofs.Ytopkfhnnapncgaa.Bits
set_option linter.unusedSimpArgs false
set_option linter.unusedVariables false
/-- What a matrix holds, in natural numbers' places. -/
theorem matrix_parts {p r c : Int} {l : List Int} (h : isMatrix p r c l = true) : ∃ R C : Nat, r = R ∧ c = C ∧ R ≤ 8 ∧ C ≤ 8 ∧ l.length = R * C ∧ 2 ≤ p ∧ p ≤ 7 ∧ isField p = true ∧ ∀ x ∈ l, 0 ≤ x ∧ x < p := by
  unfold isMatrix at h
  simp only [Bool.and_eq_true, decide_eq_true_eq] at h
  obtain ⟨⟨h1, h2, h3, h4, h5, h6⟩, h7⟩ := h
  obtain ⟨R, rfl⟩ := Int.eq_ofNat_of_zero_le h2
  obtain ⟨C, rfl⟩ := Int.eq_ofNat_of_zero_le h4
  have := isField_le h1
  refine ⟨R, C, rfl, rfl, by omega, by omega, ?_, this.1, this.2, h1, fun x hx => ?_⟩
  · have : ((l.length : Nat) : Int) = ((R * C : Nat) : Int) := by rw [h6]; simp
    omega
  · have := List.all_eq_true.1 h7 x hx; simpa using this
theorem cell_in {R C i j : Nat} {l : List Int} (hl : l.length = R * C) (hi : i < R) (hj : j < C) : i * C + j < l.length := by
  rw [hl]; calc i * C + j < i * C + C := by omega
    _ = (i + 1) * C := by rw [Nat.succ_mul]
    _ ≤ R * C := Nat.mul_le_mul_right C hi
/-- The index of a cell, as the program computes it. -/
theorem cell_index {i C j : Nat} (hi : i ≤ 8) (hC : C ≤ 8) (hj : j ≤ 8) : wrap64 ((wrap64 ((i : Int) * (C : Int))) + (j : Int)) = ((i * C + j : Nat) : Int) := by
  have h : i * C ≤ 8 * 8 := Nat.mul_le_mul hi hC
  have e : (i : Int) * (C : Int) = ((i * C : Nat) : Int) := by simp
  rw [e, wrap_in (n := ((i * C : Nat) : Int)) (by omega) (by omega), wrap_in (by omega) (by omega)]; omega
theorem getD_in {l : List Int} {p : Int} (hp : 2 ≤ p) (h : ∀ x ∈ l, 0 ≤ x ∧ x < p) (i : Nat) : 0 ≤ l.getD i 0 ∧ l.getD i 0 < p := by
  by_cases hi : i < l.length
  · have := h l[i] (List.getElem_mem hi); simpa [List.getElem?_eq_getElem hi] using this
  · simp [List.getElem?_eq_none (Nat.le_of_not_lt hi)]; omega
/-- The sum of the products of row i of one and row k of the other, over the first n columns. -/
def rowDot (l l' : List Int) (C i k : Nat) (n : Nat) : Int := (List.range n).foldl (fun a j => a + l.getD (i * C + j) 0 * l'.getD (k * C + j) 0) 0
theorem rowDot_succ (l l' : List Int) (C i k n : Nat) : rowDot l l' C i k (n + 1) = rowDot l l' C i k n + l.getD (i * C + n) 0 * l'.getD (k * C + n) 0 := by
  simp [rowDot, List.range_succ]
theorem mul_small {p x y : Int} (hp : p ≤ 7) (hx : 0 ≤ x ∧ x < p) (hy : 0 ≤ y ∧ y < p) : 0 ≤ x * y ∧ x * y ≤ 36 :=
  ⟨Int.mul_nonneg hx.1 hy.1, by have := Int.mul_le_mul (show x ≤ 6 by omega) (show y ≤ 6 by omega) hy.1 (by decide : (0 : Int) ≤ 6); omega⟩
theorem rowDot_in {p : Int} (h2 : 2 ≤ p) (h7 : p ≤ 7) {l l' : List Int} (hl : ∀ x ∈ l, 0 ≤ x ∧ x < p) (hl' : ∀ x ∈ l', 0 ≤ x ∧ x < p) (C i k : Nat) : ∀ n : Nat, 0 ≤ rowDot l l' C i k n ∧ rowDot l l' C i k n ≤ 36 * (n : Int)
  | 0 => by simp [rowDot]
  | n + 1 => by
    have ih := rowDot_in h2 h7 hl hl' C i k n
    have := mul_small h7 (getD_in h2 hl (i * C + n)) (getD_in h2 hl' (k * C + n))
    rw [rowDot_succ]; omega
def orth (p : Int) (R C : Nat) (l : List Int) (R' : Nat) (l' : List Int) : Bool := (List.range R).all fun i => (List.range R').all fun k => decide (rowDot l l' C i k C % p = 0)
/-- What both functions answer. -/
def orthI (p r c : Int) (l : List Int) (p' r' c' : Int) (l' : List Int) : Bool :=
  isMatrix p r c l && isMatrix p' r' c' l' && decide (p = p' ∧ c = c') && orth p r.toNat c.toNat l r'.toNat l'
section
variable {p p' : Int} {R C R' : Nat} {l l' : List Int}
theorem orth_sum_s (hR : R ≤ 8) (hC : C ≤ 8) (hR' : R' ≤ 8) (hl : l.length = R * C) (hl' : l'.length = R' * C) (h2 : 2 ≤ p) (h7 : p ≤ 7) (hx : ∀ x ∈ l, 0 ≤ x ∧ x < p) (hx' : ∀ x ∈ l', 0 ≤ x ∧ x < p) {i k : Nat} (hi : i < R) (hk : k < R') (r : Bool)
    (hr : Ev (fun n => spec_Orthogonal.l2 n i k (rowDot l l' C i k C) C p R C l p' R' C l') r) : Ev (fun n => spec_Orthogonal.l2 n i k 0 0 p R C l p' R' C l') r := by
  have key := loop_reach (fun n s j => spec_Orthogonal.l2 n i k s j p R C l p' R' C l') C (fun a j => a + l.getD (i * C + j) 0 * l'.getD (k * C + j) 0) (fun n s => s = rowDot l l' C i k n)
    (fun j s hj hs => ⟨by rw [rowDot_succ, ← hs], fun r hr => by
      have h1 := cell_in hl hi hj
      have h2' := cell_in hl' hk hj
      have hd := rowDot_in h2 h7 hx hx' C i k j
      have hm := mul_small h7 (getD_in h2 hx (i * C + j)) (getD_in h2 hx' (k * C + j))
      subst hs
      simp only [spec_Orthogonal.l2, show ((j : Int) < (C : Int)) by omega, cell_index (show i ≤ 8 by omega) hC (show j ≤ 8 by omega), cell_index (show k ≤ 8 by omega) hC (show j ≤ 8 by omega), show (0 : Int) ≤ ((i * C + j : Nat) : Int) by omega, show (0 : Int) ≤ ((k * C + j : Nat) : Int) by omega,
        show ((i * C + j : Nat) : Int) < (l.length : Int) by omega, show ((k * C + j : Nat) : Int) < (l'.length : Int) by omega, if_true, rd_getD, wrap_succ (show j < 9223372036854775807 by omega)]
      rw [wrap_in (n := l.getD (i * C + j) 0 * l'.getD (k * C + j) 0) (by omega) (by omega), wrap_in (by omega) (by omega)]
      exact hr⟩) 0 rfl
  exact key.2 r hr
theorem orth_sum_i (hR : R ≤ 8) (hC : C ≤ 8) (hR' : R' ≤ 8) (hl : l.length = R * C) (hl' : l'.length = R' * C) (h2 : 2 ≤ p) (h7 : p ≤ 7) (hx : ∀ x ∈ l, 0 ≤ x ∧ x < p) (hx' : ∀ x ∈ l', 0 ≤ x ∧ x < p) {i k : Nat} (hi : i < R) (hk : k < R') (r : Bool)
    (hr : Ev (fun n => impl_Orthogonal.l2 n i k (rowDot l l' C i k C) C p R C l p' R' C l') r) : Ev (fun n => impl_Orthogonal.l2 n i k 0 0 p R C l p' R' C l') r := by
  have key := loop_reach (fun n s j => impl_Orthogonal.l2 n i k s j p R C l p' R' C l') C (fun a j => a + l.getD (i * C + j) 0 * l'.getD (k * C + j) 0) (fun n s => s = rowDot l l' C i k n)
    (fun j s hj hs => ⟨by rw [rowDot_succ, ← hs], fun r hr => by
      have h1 := cell_in hl hi hj
      have h2' := cell_in hl' hk hj
      have hd := rowDot_in h2 h7 hx hx' C i k j
      have hm := mul_small h7 (getD_in h2 hx (i * C + j)) (getD_in h2 hx' (k * C + j))
      subst hs
      simp only [impl_Orthogonal.l2, impl_Matrix_at.f, show ((j : Int) < (C : Int)) by omega, cell_index (show i ≤ 8 by omega) hC (show j ≤ 8 by omega), cell_index (show k ≤ 8 by omega) hC (show j ≤ 8 by omega), show (0 : Int) ≤ ((i * C + j : Nat) : Int) by omega, show (0 : Int) ≤ ((k * C + j : Nat) : Int) by omega,
        show ((i * C + j : Nat) : Int) < (l.length : Int) by omega, show ((k * C + j : Nat) : Int) < (l'.length : Int) by omega, if_true, rd_getD, wrap_succ (show j < 9223372036854775807 by omega), Option.bind_some]
      rw [wrap_in (n := l.getD (i * C + j) 0 * l'.getD (k * C + j) 0) (by omega) (by omega), wrap_in (by omega) (by omega)]
      exact hr⟩) 0 rfl
  exact key.2 r hr
theorem tmod_zero {x p : Int} (hx : 0 ≤ x) : Int.tmod x p = x % p := Int.tmod_eq_emod_of_nonneg hx
theorem orth_s (hR : R ≤ 8) (hC : C ≤ 8) (hR' : R' ≤ 8) (hl : l.length = R * C) (hl' : l'.length = R' * C) (h2 : 2 ≤ p) (h7 : p ≤ 7) (hx : ∀ x ∈ l, 0 ≤ x ∧ x < p) (hx' : ∀ x ∈ l', 0 ≤ x ∧ x < p) :
    Ev (fun n => spec_Orthogonal.l0 n 0 p R C l p' R' C l') (orth p R C l R' l') := by
  have h := loop_back (fun n i => spec_Orthogonal.l0 n i p R C l p' R' C l') R (fun i r => (List.range R').all (fun k => decide (rowDot l l' C i k C % p = 0)) && r) true
    (by simp only [spec_Orthogonal.l0, show ¬ ((R : Int) < (R : Int)) by omega, if_false]; exact Ev.now _) fun i hi r hr => by
      simp only [spec_Orthogonal.l0, show ((i : Int) < (R : Int)) by omega, if_true]
      rw [← foldr_all]
      refine loop_back (fun n k => spec_Orthogonal.l1 n i k p R C l p' R' C l') R' _ r ?_ fun k hk r hr => ?_
      · simp only [spec_Orthogonal.l1, show ¬ ((R' : Int) < (R' : Int)) by omega, if_false, wrap_succ (show i < 9223372036854775807 by omega)]; exact hr
      · have hd := rowDot_in h2 h7 hx hx' C i k C
        simp only [spec_Orthogonal.l1, show ((k : Int) < (R' : Int)) by omega, if_true]
        refine orth_sum_s hR hC hR' hl hl' h2 h7 hx hx' hi hk _ (Ev.succ ?_)
        simp only [spec_Orthogonal.l2, show ¬ ((C : Int) < (C : Int)) by omega, if_false, show ¬ p = 0 by omega, tmod_zero hd.1, wrap_succ (show k < 9223372036854775807 by omega)]
        by_cases hz : rowDot l l' C i k C % p = 0
        · simp only [hz, if_true, decide_true, Bool.true_and]; exact hr
        · simp only [hz, if_false, decide_false, Bool.false_and]; exact Ev.now _
  rw [foldr_all, Bool.and_true] at h
  exact h
theorem orth_i (hR : R ≤ 8) (hC : C ≤ 8) (hR' : R' ≤ 8) (hl : l.length = R * C) (hl' : l'.length = R' * C) (h2 : 2 ≤ p) (h7 : p ≤ 7) (hx : ∀ x ∈ l, 0 ≤ x ∧ x < p) (hx' : ∀ x ∈ l', 0 ≤ x ∧ x < p) :
    Ev (fun n => impl_Orthogonal.l0 n 0 p R C l p' R' C l') (orth p R C l R' l') := by
  have h := loop_back (fun n i => impl_Orthogonal.l0 n i p R C l p' R' C l') R (fun i r => (List.range R').all (fun k => decide (rowDot l l' C i k C % p = 0)) && r) true
    (by simp only [impl_Orthogonal.l0, show ¬ ((R : Int) < (R : Int)) by omega, if_false]; exact Ev.now _) fun i hi r hr => by
      simp only [impl_Orthogonal.l0, show ((i : Int) < (R : Int)) by omega, if_true]
      rw [← foldr_all]
      refine loop_back (fun n k => impl_Orthogonal.l1 n i k p R C l p' R' C l') R' _ r ?_ fun k hk r hr => ?_
      · simp only [impl_Orthogonal.l1, show ¬ ((R' : Int) < (R' : Int)) by omega, if_false, wrap_succ (show i < 9223372036854775807 by omega)]; exact hr
      · have hd := rowDot_in h2 h7 hx hx' C i k C
        simp only [impl_Orthogonal.l1, show ((k : Int) < (R' : Int)) by omega, if_true]
        refine orth_sum_i hR hC hR' hl hl' h2 h7 hx hx' hi hk _ (Ev.succ ?_)
        simp only [impl_Orthogonal.l2, show ¬ ((C : Int) < (C : Int)) by omega, if_false, show ¬ p = 0 by omega, tmod_zero hd.1, wrap_succ (show k < 9223372036854775807 by omega)]
        by_cases hz : rowDot l l' C i k C % p = 0
        · simp only [hz, if_true, decide_true, Bool.true_and]; exact hr
        · simp only [hz, if_false, decide_false, Bool.false_and]; exact Ev.now _
  rw [foldr_all, Bool.and_true] at h
  exact h
end
theorem Orthogonal_s (p r c : Int) (l : List Int) (p' r' c' : Int) (l' : List Int) : Ev (fun k => spec_Orthogonal.f k p r c l p' r' c' l') (orthI p r c l p' r' c' l') := by
  have no : ∀ p r c l p' r' c' l', Ev (fun k => spec_Orthogonal.j0 k true p r c l p' r' c' l') false := fun p r c l p' r' c' l' => Ev.succ (by simp only [spec_Orthogonal.j0, if_true]; exact Ev.now _)
  unfold spec_Orthogonal.f orthI
  refine Ev.bind (IsMatrix_s p r c l) ?_
  cases hm : isMatrix p r c l
  · simp only [Bool.false_eq_true, if_false, Bool.false_and]; exact no _ _ _ _ _ _ _ _
  simp only [if_true, Bool.true_and]
  refine Ev.bind (IsMatrix_s p' r' c' l') ?_
  cases hm' : isMatrix p' r' c' l'
  · simp only [Bool.false_eq_true, if_false, Bool.false_and]; exact no _ _ _ _ _ _ _ _
  simp only [if_true, Bool.true_and]
  by_cases hp : p = p'
  · by_cases hc : c = c'
    · subst hp; subst hc
      simp only [if_true, bne_self_eq_false, and_self, decide_true, Bool.true_and]
      obtain ⟨R, C, rfl, rfl, hR, hC, hl, h2, h7, _, hx⟩ := matrix_parts hm
      obtain ⟨R', C', rfl, hCC, hR', _, hl', _, _, _, hx'⟩ := matrix_parts hm'
      obtain rfl : C = C' := by omega
      refine Ev.succ ?_
      simp only [spec_Orthogonal.j0, Bool.false_eq_true, if_false, Int.toNat_natCast]
      exact orth_s hR hC hR' hl hl' h2 h7 hx hx'
    · simp only [hp, if_true, show (c != c') = true by simpa using hc, hc, and_false, decide_false, Bool.false_and]; exact no _ _ _ _ _ _ _ _
  · simp only [hp, if_false, false_and, decide_false, Bool.false_and]; exact no _ _ _ _ _ _ _ _
theorem Orthogonal_i (p r c : Int) (l : List Int) (p' r' c' : Int) (l' : List Int) : Ev (fun k => impl_Orthogonal.f k p r c l p' r' c' l') (orthI p r c l p' r' c' l') := by
  have no : ∀ p r c l p' r' c' l', Ev (fun k => impl_Orthogonal.j0 k true p r c l p' r' c' l') false := fun p r c l p' r' c' l' => Ev.succ (by simp only [impl_Orthogonal.j0, if_true]; exact Ev.now _)
  unfold impl_Orthogonal.f orthI
  refine Ev.bind (IsMatrix_i p r c l) ?_
  cases hm : isMatrix p r c l
  · simp only [Bool.false_eq_true, if_false, Bool.false_and]; exact no _ _ _ _ _ _ _ _
  simp only [if_true, Bool.true_and]
  refine Ev.bind (IsMatrix_i p' r' c' l') ?_
  cases hm' : isMatrix p' r' c' l'
  · simp only [Bool.false_eq_true, if_false, Bool.false_and]; exact no _ _ _ _ _ _ _ _
  simp only [if_true, Bool.true_and]
  by_cases hp : p = p'
  · by_cases hc : c = c'
    · subst hp; subst hc
      simp only [if_true, bne_self_eq_false, and_self, decide_true, Bool.true_and]
      obtain ⟨R, C, rfl, rfl, hR, hC, hl, h2, h7, _, hx⟩ := matrix_parts hm
      obtain ⟨R', C', rfl, hCC, hR', _, hl', _, _, _, hx'⟩ := matrix_parts hm'
      obtain rfl : C = C' := by omega
      refine Ev.succ ?_
      simp only [impl_Orthogonal.j0, Bool.false_eq_true, if_false, Int.toNat_natCast]
      exact orth_i hR hC hR' hl hl' h2 h7 hx hx'
    · simp only [hp, if_true, show (c != c') = true by simpa using hc, hc, and_false, decide_false, Bool.false_and]; exact no _ _ _ _ _ _ _ _
  · simp only [hp, if_false, false_and, decide_false, Bool.false_and]; exact no _ _ _ _ _ _ _ _
end Go.Proofs.Ytopkfhnnapncgaa.L
