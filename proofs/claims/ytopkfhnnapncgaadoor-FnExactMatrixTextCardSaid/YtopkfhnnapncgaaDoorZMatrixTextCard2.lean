/- Several texts of this session in one: LMatrix, LCell, LText, PuFnExactMatrixText, LawFnExactMatrixTextCard. Conditions: as each theorem says. -/
import Derived.Test.YtopkfhnnapncgaaDoorZMatrixTextCard1
import Derived.Test.YtopkfhnnapncgaaDoorZMatrixTextCard0
import Derived.Lib.LazyBuf
import Derived.Test.YtopkfhnnapncgaaDoorRows
import Derived.Test.YtopkfhnnapncgaaDoorCards
import Derived.Test.YtopkfhnnapncgaaDoorTie
import Derived.WalkKit
import Derived.Lay
import Derived.LaidMore
import Derived.ProofKit
import Derived.OpenShut
import Derived.ShutString
import Derived.ChangeOld
import Derived.Below
import Derived.SizedLaws
import Derived.Lib.SmallJoins
section
namespace Go.Proofs.YtopkfhnnapncgaaDoor.L
open Go.RowKit Go.Proofs.YtopkfhnnapncgaaDoor.F Go.Proofs.YtopkfhnnapncgaaDoorW.PrintWords Go.Proofs.YtopkfhnnapncgaaDoorW.PrintLast Go.Proofs.YtopkfhnnapncgaaDoorW.PrintMore
open Go.Proofs.YtopkfhnnapncgaaDoor.Bits
set_option linter.unusedSimpArgs false
def isField (p : Int) : Bool := decide (p = 2 ∨ p = 3 ∨ p = 5 ∨ p = 7)
theorem isField_i (p : Int) : impl_isField.f p = some (isField p) := by
  unfold impl_isField.f isField
  by_cases h2 : p = 2
  · simp [h2]
  by_cases h3 : p = 3
  · simp [h3]
  by_cases h5 : p = 5
  · simp [h5]
  rw [if_neg h2, if_neg h3, if_neg h5]
  simp only [h2, h3, h5, false_or]
  rfl
theorem isField_s (p : Int) : spec_l12Prime.f p = some (isField p) := by
  unfold spec_l12Prime.f isField
  by_cases h2 : p = 2
  · simp [h2]
  by_cases h3 : p = 3
  · simp [h3]
  by_cases h5 : p = 5
  · simp [h5]
  rw [if_neg h2, if_neg h3, if_neg h5]
  simp only [h2, h3, h5, false_or]
  rfl
/-- What a matrix is. -/
def isMatrix (p r c : Int) (l : List Int) : Bool :=
  isField p && decide (0 ≤ r ∧ r ≤ 8 ∧ 0 ≤ c ∧ c ≤ 8 ∧ (l.length : Int) = r * c) && l.all fun x => decide (0 ≤ x ∧ x < p)
theorem isMatrix_no {p r c : Int} {l : List Int} (h : ¬ (isField p = true ∧ 0 ≤ r ∧ r ≤ 8 ∧ 0 ≤ c ∧ c ≤ 8 ∧ (l.length : Int) = r * c)) : isMatrix p r c l = false := by
  unfold isMatrix
  cases hp : isField p
  · simp
  · have : ¬ (0 ≤ r ∧ r ≤ 8 ∧ 0 ≤ c ∧ c ≤ 8 ∧ (l.length : Int) = r * c) := fun hh => h ⟨hp, hh⟩
    simp only [this, decide_false, Bool.and_false, Bool.false_and]
theorem mul_in {r c : Int} (hr : 0 ≤ r ∧ r ≤ 8) (hc : 0 ≤ c ∧ c ≤ 8) : 0 ≤ r * c ∧ r * c ≤ 64 :=
  ⟨Int.mul_nonneg hr.1 hc.1, by have := Int.mul_le_mul hr.2 hc.2 hc.1 (by omega : (0 : Int) ≤ 8); omega⟩
theorem isMatrix_yes {p r c : Int} {l : List Int} (h : isField p = true ∧ 0 ≤ r ∧ r ≤ 8 ∧ 0 ≤ c ∧ c ≤ 8 ∧ (l.length : Int) = r * c) : isMatrix p r c l = l.all fun x => decide (0 ≤ x ∧ x < p) := by
  unfold isMatrix; simp only [h.1, h.2, and_self, decide_true, Bool.and_self, Bool.true_and]
theorem isField_le {p : Int} (h : isField p = true) : 2 ≤ p ∧ p ≤ 7 := by
  have : p = 2 ∨ p = 3 ∨ p = 5 ∨ p = 7 := of_decide_eq_true h
  omega
theorem IsMatrix_s (p r c : Int) (l : List Int) : Ev (fun k => spec_IsMatrix.f k p r c l) (isMatrix p r c l) := by
  have no : ∀ p r c l, Ev (fun k => spec_IsMatrix.j0 k true p r c l) false := fun p r c l => Ev.succ (by simp only [spec_IsMatrix.j0, if_true]; exact Ev.now _)
  unfold spec_IsMatrix.f
  simp only [l1In, isField_s, Option.bind_some, decide_eq_true_eq]
  by_cases hp : isField p = true
  · simp only [hp, if_true]
    by_cases hr : 0 ≤ r ∧ r ≤ 8
    · simp only [hr, and_self, if_true]
      by_cases hc : 0 ≤ c ∧ c ≤ 8
      · simp only [hc, and_self, if_true]
        have hm := mul_in hr hc
        have hw : wrap64 (r * c) = r * c := wrap_in (by omega) (by omega)
        rw [hw]
        by_cases he : (l.length : Int) = r * c
        · rw [show ((l.length : Int) != r * c) = false by simp [he], isMatrix_yes ⟨hp, hr.1, hr.2, hc.1, hc.2, he⟩]
          have hp2 := isField_le hp
          refine Ev.succ ?_
          simp only [spec_IsMatrix.j0, Bool.false_eq_true, if_false]
          rw [← range_all_get l 0]
          refine loop_all0 (fun k i => spec_IsMatrix.l0 k i p r c l) _ _ (fun k => by simp only [spec_IsMatrix.l0, show ¬ ((l.length : Int) < (l.length : Int)) by omega, if_false]) ?_
          intro i hi k
          have hw : wrap64 (p - 1) = p - 1 := wrap_in (by omega) (by omega)
          simp only [spec_IsMatrix.l0, show ((i : Int) < (l.length : Int)) by omega, show (0 : Int) ≤ (i : Int) by omega, if_true, rd_getD, wrap_succ (show i < 9223372036854775807 by omega), l1In, hw, Option.bind_some, decide_eq_true_eq]
          generalize l.getD i 0 = x
          by_cases h1 : 0 ≤ x ∧ x ≤ p - 1
          · rw [if_pos h1, if_pos (by omega)]
          · rw [if_neg h1, if_neg (by omega)]
        · rw [show ((l.length : Int) != r * c) = true by simp [he], isMatrix_no (fun hh => he hh.2.2.2.2.2)]; exact no _ _ _ _
      · simp only [hc, if_false]; rw [isMatrix_no (fun hh => hc ⟨hh.2.2.2.1, hh.2.2.2.2.1⟩)]; exact no _ _ _ _
    · simp only [hr, if_false]; rw [isMatrix_no (fun hh => hr ⟨hh.2.1, hh.2.2.1⟩)]; exact no _ _ _ _
  · simp only [hp, if_false]; rw [isMatrix_no (fun hh => hp hh.1)]; exact no _ _ _ _
theorem IsMatrix_i (p r c : Int) (l : List Int) : Ev (fun k => impl_IsMatrix.f k p r c l) (isMatrix p r c l) := by
  have no : ∀ p r c l, Ev (fun k => impl_IsMatrix.j0 k true p r c l) false := fun p r c l => Ev.succ (by simp only [impl_IsMatrix.j0, if_true]; exact Ev.now _)
  unfold impl_IsMatrix.f
  simp only [isSize_i, isField_i, Option.bind_some, decide_eq_true_eq]
  by_cases hp : isField p = true
  · simp only [hp, if_true]
    by_cases hr : 0 ≤ r ∧ r ≤ 8
    · simp only [hr, and_self, if_true]
      by_cases hc : 0 ≤ c ∧ c ≤ 8
      · simp only [hc, and_self, if_true]
        have hm := mul_in hr hc
        have hw : wrap64 (r * c) = r * c := wrap_in (by omega) (by omega)
        rw [hw]
        by_cases he : (l.length : Int) = r * c
        · rw [show ((l.length : Int) != r * c) = false by simp [he], isMatrix_yes ⟨hp, hr.1, hr.2, hc.1, hc.2, he⟩]
          refine Ev.succ ?_
          simp only [impl_IsMatrix.j0, Bool.false_eq_true, if_false]
          rw [← range_all_get l 0]
          refine loop_all0 (fun k i => impl_IsMatrix.l0 k l (l.length : Int) i p r c l) _ _ (fun k => by simp only [impl_IsMatrix.l0, show ¬ ((l.length : Int) < (l.length : Int)) by omega, if_false]) ?_
          intro i hi k
          simp only [impl_IsMatrix.l0, show ((i : Int) < (l.length : Int)) by omega, show (0 : Int) ≤ (i : Int) by omega, if_true, rd_getD, wrap_succ (show i < 9223372036854775807 by omega), decide_eq_true_eq]
          generalize l.getD i 0 = x
          by_cases h1 : x < 0
          · rw [if_pos h1, if_neg (by omega)]
          rw [if_neg h1]
          by_cases h2 : x ≥ p
          · rw [if_pos h2, if_neg (by omega)]
          rw [if_neg h2, if_pos (by omega)]
        · rw [show ((l.length : Int) != r * c) = true by simp [he], isMatrix_no (fun hh => he hh.2.2.2.2.2)]; exact no _ _ _ _
      · simp only [hc, if_false]; rw [isMatrix_no (fun hh => hc ⟨hh.2.2.2.1, hh.2.2.2.2.1⟩)]; exact no _ _ _ _
    · simp only [hr, if_false]; rw [isMatrix_no (fun hh => hr ⟨hh.2.1, hh.2.2.1⟩)]; exact no _ _ _ _
  · simp only [hp, if_false]; rw [isMatrix_no (fun hh => hp hh.1)]; exact no _ _ _ _
theorem toMatrix (p r c : Int) (l : List Int) (h : l.length ≤ 17592186044416) : Ev (fun k => laws_toMatrix.f k p r c l) (p, r, c, l) := by
  unfold laws_toMatrix.f
  exact Ev.bind (toIntS l h) (Ev.now _)
theorem eqMatrix (p r c : Int) (l : List Int) (p' r' c' : Int) (l' : List Int) (h : l.length ≤ 17592186044416) : Ev (fun k => laws_eqMatrix.f k p r c l p' r' c' l') (decide ((p, r, c, l) = (p', r', c', l'))) := by
  unfold laws_eqMatrix.f
  by_cases h1 : p = p'
  · by_cases h2 : r = r'
    · by_cases h3 : c = c'
      · simp only [h1, h2, h3, if_true]
        refine Ev.bind (eqIntS l l' h) ?_
        by_cases h4 : l = l'
        · simp only [h4, decide_true, if_true]; exact Ev.now _
        · simp only [h4, decide_false, Bool.false_eq_true, if_false]; simp only [Prod.mk.injEq, h4, and_false, decide_false]; exact Ev.now _
      · simp only [h1, h2, h3, if_true, if_false, Prod.mk.injEq, and_false, false_and, decide_false]; exact Ev.now _
    · simp only [h1, h2, if_true, if_false, Prod.mk.injEq, and_false, false_and, decide_false]; exact Ev.now _
  · simp only [h1, if_false, Prod.mk.injEq, false_and, decide_false]; exact Ev.now _
theorem szMatrix (p r c : Int) (l : List Int) (n : Int) (h : l.length ≤ 17592186044416) (h0 : 0 ≤ n) (h1 : n ≤ 1048576) : ∃ m, laws_szMatrix.f p r c l n = some m ∧ (m < 0 ∨ (0 ≤ m ∧ m ≤ 1048576 ∧ l.length ≤ 1048576)) := by
  unfold laws_szMatrix.f
  rw [szIntS l n h h0 h1]
  simp only [Option.bind_some]
  by_cases hn : n < (l.length : Int)
  · rw [if_pos hn, if_pos (by decide)]
    exact ⟨_, rfl, .inl (by decide)⟩
  · rw [if_neg hn, if_neg (by omega)]
    exact ⟨_, rfl, .inr (by omega)⟩
end Go.Proofs.YtopkfhnnapncgaaDoor.L
end
section
namespace Go.Proofs.YtopkfhnnapncgaaDoor.L
open Go.RowKit Go.Proofs.YtopkfhnnapncgaaDoor.F Go.Proofs.YtopkfhnnapncgaaDoorW.PrintWords Go.Proofs.YtopkfhnnapncgaaDoorW.PrintLast Go.Proofs.YtopkfhnnapncgaaDoorW.PrintMore
open Go.Proofs.YtopkfhnnapncgaaDoor.Bits
set_option linter.unusedSimpArgs false
set_option linter.unusedVariables false
/-- What a matrix holds, in natural numbers' places. -/
theorem matrix_parts {p r c : Int} {l : List Int} (h : isMatrix p r c l = true) : ∃ R C : Nat, r = R ∧ c = C ∧ R ≤ 8 ∧ C ≤ 8 ∧ l.length = R * C ∧ 2 ≤ p ∧ p ≤ 7 ∧ isField p = true ∧ ∀ x ∈ l, 0 ≤ x ∧ x < p := by
  unfold isMatrix at h
  simp only [Bool.and_eq_true, decide_eq_true_eq] at h
  obtain ⟨⟨h1, h2, h3, h4, h5, h6⟩, h7⟩ := h
  obtain ⟨R, rfl⟩ := Int.eq_ofNat_of_zero_le h2
  obtain ⟨C, rfl⟩ := Int.eq_ofNat_of_zero_le h4
  have := isField_le h1
  refine ⟨R, C, rfl, rfl, by omega, by omega, ?_, this.1, this.2, h1, fun x hx => ?_⟩
  · have : ((l.length : Nat) : Int) = ((R * C : Nat) : Int) := by rw [h6]; simp
    omega
  · have := List.all_eq_true.1 h7 x hx; simpa using this
theorem cell_in {R C i j : Nat} {l : List Int} (hl : l.length = R * C) (hi : i < R) (hj : j < C) : i * C + j < l.length := by
  rw [hl]; calc i * C + j < i * C + C := by omega
    _ = (i + 1) * C := by rw [Nat.succ_mul]
    _ ≤ R * C := Nat.mul_le_mul_right C hi
/-- The index of a cell, as1 the program computes it. -/
theorem cell_index {i C j : Nat} (hi : i ≤ 8) (hC : C ≤ 8) (hj : j ≤ 8) : wrap64 ((wrap64 ((i : Int) * (C : Int))) + (j : Int)) = ((i * C + j : Nat) : Int) := by
  have h : i * C ≤ 8 * 8 := Nat.mul_le_mul hi hC
  have e : (i : Int) * (C : Int) = ((i * C : Nat) : Int) := by simp
  rw [e, wrap_in (n := ((i * C : Nat) : Int)) (by omega) (by omega), wrap_in (by omega) (by omega)]; omega
theorem getD_in {l : List Int} {p : Int} (hp : 2 ≤ p) (h : ∀ x ∈ l, 0 ≤ x ∧ x < p) (i : Nat) : 0 ≤ l.getD i 0 ∧ l.getD i 0 < p := by
  by_cases hi : i < l.length
  · have := h l[i] (List.getElem_mem hi); simpa [List.getElem?_eq_getElem hi] using this
  · simp [List.getElem?_eq_none (Nat.le_of_not_lt hi)]; omega
end Go.Proofs.YtopkfhnnapncgaaDoor.L
end
section
namespace Go.Proofs.YtopkfhnnapncgaaDoor.L
open Go.RowKit Go.Proofs.YtopkfhnnapncgaaDoor.F Go.Proofs.YtopkfhnnapncgaaDoorW.PrintWords Go.Proofs.YtopkfhnnapncgaaDoorW.PrintLast Go.Proofs.YtopkfhnnapncgaaDoorW.PrintMore
open Go.Proofs.YtopkfhnnapncgaaDoor.Bits
set_option linter.unusedSimpArgs false
set_option linter.unusedVariables false
def dg (n : Nat) : ByteArray := ⟨#[UInt8.ofNat (48 + n)]⟩
theorem dg_size (n : Nat) : (dg n).size = 1 := rfl
theorem sp_size (b : UInt8) : (⟨#[b]⟩ : ByteArray).size = 1 := rfl
theorem Format_i {n : Nat} (h : n < 10) : impl_FormatInt.f (n : Int) = some (dg n) := by
  unfold impl_FormatInt.f
  rw [if_pos (by omega), Int.toNat_natCast, Lib.decDigits, dif_pos h]
  rfl
theorem nums_dg {n : Nat} (h : n < 10) : strOfNums [((48 + n : Nat) : Int)] = dg n := by
  have h1 := Lib.Lz.strOfNums_map [UInt8.ofNat (48 + n)]
  have h2 : (UInt8.ofNat (48 + n)).toNat = 48 + n := by rw [UInt8.toNat_ofNat']; omega
  rw [List.map_cons, List.map_nil, h2] at h1
  exact h1
theorem Format_s {n : Nat} (h : n < 10) : Ev (fun k => spec_FormatInt.f k (n : Int)) (dg n) := by
  unfold spec_FormatInt.f
  by_cases h0 : n = 0
  · subst h0
    simp only [show (((0 : Nat) : Int) = 0) from rfl, if_true]; exact Ev.now _
  have e1 : Int.tmod (n : Int) 10 = n := by rw [Int.tmod_eq_emod_of_nonneg (by omega)]; omega
  have e2 : Int.tdiv (n : Int) 10 = 0 := by rw [Int.tdiv_eq_ediv_of_nonneg (by omega)]; omega
  have e3 : wrap64 (48 + (n : Int)) % 256 = ((48 + n : Nat) : Int) := by rw [wrap_in (by omega) (by omega)]; omega
  have e5 : wrap64 (0 : Int) = 0 := wrap_in (by omega) (by omega)
  have e6 : decide ((n : Int) < 0) = false := decide_eq_false (by omega)
  simp only [if_neg (show ¬ ((n : Int) = 0) by omega)]
  refine Ev.succ ?_
  simp only [spec_FormatInt.l0, if_neg (show ¬ ((n : Int) = 0) by omega), e1, if_neg (show ¬ ((n : Int) < 0) by omega), Option.bind_some, e3, nums_dg h, e2, e5, e6, dg_size]
  rw [show (⟨#[]⟩ : ByteArray).size = 0 from rfl, show dg n ++ (⟨#[]⟩ : ByteArray) = dg n from ByteArray.append_empty]
  simp only [show (1 + 0 ≤ 9223372036854775807) by omega, if_true]
  refine Ev.succ ?_
  simp only [spec_FormatInt.l0, if_true, Bool.false_eq_true, if_false]
  exact Ev.now _
def rowT (l : List Int) (C i : Nat) (s : ByteArray) : ByteArray := (List.range C).foldl (fun s j => s ++ dg (l.getD (i * C + j) 0).toNat) (s ++ ⟨#[32]⟩)
def matT (l : List Int) (P R C : Nat) : ByteArray := (List.range R).foldl (fun s i => rowT l C i s) (dg P ++ ⟨#[32]⟩ ++ dg R ++ ⟨#[120]⟩ ++ dg C)
section
variable {P R C : Nat} {l : List Int}
theorem text_s (hR : R ≤ 8) (hC : C ≤ 8) (hl : l.length = R * C) (hP : 2 ≤ P ∧ P ≤ 7) (hx : ∀ x ∈ l, 0 ≤ x ∧ x < (P : Int)) {s0 : ByteArray} (h0 : s0.size ≤ 5) :
    Ev (fun k => spec_MatrixText.l0 k s0 0 P R C l) ((List.range R).foldl (fun s i => rowT l C i s) s0) := by
  have key := loop_reach (fun k s i => spec_MatrixText.l0 k s i P R C l) R (fun s i => rowT l C i s) (fun i s => s.size ≤ 5 + 9 * i)
    (fun i s hi hs => by
      have inner := loop_reach (fun k s j => spec_MatrixText.l1 k s i j P R C l) C (fun s j => s ++ dg (l.getD (i * C + j) 0).toNat) (fun j s => s.size ≤ 6 + 9 * i + j)
        (fun j s hj hs => ⟨by rw [ByteArray.size_append, dg_size]; omega, fun r hr => by
          have hin := cell_in hl hi hj
          have hg := getD_in (show (2 : Int) ≤ (P : Int) by omega) hx (i * C + j)
          obtain ⟨x, ex⟩ := Int.eq_ofNat_of_zero_le hg.1
          rw [ex] at hr hg
          simp only [spec_MatrixText.l1, show ((j : Int) < (C : Int)) by omega, if_true, cell_index (show i ≤ 8 by omega) hC (show j ≤ 8 by omega), show (0 : Int) ≤ ((i * C + j : Nat) : Int) by omega, show ((i * C + j : Nat) : Int) < (l.length : Int) by omega, rd_getD, ex, wrap_succ (show j < 9223372036854775807 by omega)]
          refine Ev.bind (Format_s (show x < 10 by omega)) ?_
          have hc : s.size + 1 ≤ 9223372036854775807 := by omega
          simp only [dg_size, hc, if_true]
          rw [Int.toNat_natCast] at hr; exact hr⟩) (s ++ ⟨#[32]⟩) (by rw [ByteArray.size_append, sp_size]; omega)
      have hrow : rowT l C i s = (List.range C).foldl (fun s j => s ++ dg (l.getD (i * C + j) 0).toNat) (s ++ ⟨#[32]⟩) := rfl
      refine ⟨by rw [hrow]; have := inner.1; omega, fun r hr => ?_⟩
      simp only [spec_MatrixText.l0, show ((i : Int) < (R : Int)) by omega, if_true, if_pos (show s.size + 1 ≤ 9223372036854775807 by omega)]
      refine inner.2 _ (Ev.succ ?_)
      simp only [spec_MatrixText.l1, show ¬ ((C : Int) < (C : Int)) by omega, if_false, wrap_succ (show i < 9223372036854775807 by omega)]
      rw [← hrow]; exact hr) s0 (by omega)
  refine key.2 _ (Ev.succ ?_)
  simp only [spec_MatrixText.l0, show ¬ ((R : Int) < (R : Int)) by omega, if_false]
  exact Ev.now _
theorem text_i (hR : R ≤ 8) (hC : C ≤ 8) (hl : l.length = R * C) (hP : 2 ≤ P ∧ P ≤ 7) (hx : ∀ x ∈ l, 0 ≤ x ∧ x < (P : Int)) {s0 : ByteArray} (h0 : s0.size ≤ 5) :
    Ev (fun k => impl_MatrixText.l0 k s0 0 P R C l) ((List.range R).foldl (fun s i => rowT l C i s) s0) := by
  have key := loop_reach (fun k s i => impl_MatrixText.l0 k s i P R C l) R (fun s i => rowT l C i s) (fun i s => s.size ≤ 5 + 9 * i)
    (fun i s hi hs => by
      have inner := loop_reach (fun k s j => impl_MatrixText.l1 k s i j P R C l) C (fun s j => s ++ dg (l.getD (i * C + j) 0).toNat) (fun j s => s.size ≤ 6 + 9 * i + j)
        (fun j s hj hs => ⟨by rw [ByteArray.size_append, dg_size]; omega, fun r hr => by
          have hin := cell_in hl hi hj
          have hg := getD_in (show (2 : Int) ≤ (P : Int) by omega) hx (i * C + j)
          obtain ⟨x, ex⟩ := Int.eq_ofNat_of_zero_le hg.1
          rw [ex] at hr hg
          have hc : s.size + 1 ≤ 9223372036854775807 := by omega
          simp only [impl_MatrixText.l1, impl_Matrix_at.f, show ((j : Int) < (C : Int)) by omega, if_true, cell_index (show i ≤ 8 by omega) hC (show j ≤ 8 by omega), show (0 : Int) ≤ ((i * C + j : Nat) : Int) by omega, show ((i * C + j : Nat) : Int) < (l.length : Int) by omega, rd_getD, ex, wrap_succ (show j < 9223372036854775807 by omega), Option.bind_some, Format_i (show x < 10 by omega), dg_size, hc, if_true]
          rw [Int.toNat_natCast] at hr; exact hr⟩) (s ++ ⟨#[32]⟩) (by rw [ByteArray.size_append, sp_size]; omega)
      have hrow : rowT l C i s = (List.range C).foldl (fun s j => s ++ dg (l.getD (i * C + j) 0).toNat) (s ++ ⟨#[32]⟩) := rfl
      refine ⟨by rw [hrow]; have := inner.1; omega, fun r hr => ?_⟩
      simp only [impl_MatrixText.l0, show ((i : Int) < (R : Int)) by omega, if_true, if_pos (show s.size + 1 ≤ 9223372036854775807 by omega)]
      refine inner.2 _ (Ev.succ ?_)
      simp only [impl_MatrixText.l1, show ¬ ((C : Int) < (C : Int)) by omega, if_false, wrap_succ (show i < 9223372036854775807 by omega)]
      rw [← hrow]; exact hr) s0 (by omega)
  refine key.2 _ (Ev.succ ?_)
  simp only [impl_MatrixText.l0, show ¬ ((R : Int) < (R : Int)) by omega, if_false]
  exact Ev.now _
end
def textI (p r c : Int) (l : List Int) : ByteArray := if isMatrix p r c l = true then matT l p.toNat r.toNat c.toNat else ⟨#[]⟩
theorem MatrixText_i (p r c : Int) (l : List Int) : Ev (fun k => impl_MatrixText.f k p r c l) (textI p r c l) := by
  unfold impl_MatrixText.f textI
  refine Ev.bind (IsMatrix_i p r c l) ?_
  cases h : isMatrix p r c l
  · simp only [Bool.false_eq_true, if_false]; exact Ev.now _
  obtain ⟨R, C, rfl, rfl, hR, hC, hl, h2, h7, hf, hx⟩ := matrix_parts h
  obtain ⟨P, rfl⟩ := Int.eq_ofNat_of_zero_le (show 0 ≤ p by omega)
  simp only [if_true, Int.toNat_natCast, Format_i (show P < 10 by omega), Format_i (show R < 10 by omega), Format_i (show C < 10 by omega), Option.bind_some, dg_size, ByteArray.size_append, sp_size]
  simp only [show (1 + 1 ≤ 9223372036854775807) by omega, show (1 + 1 + 1 ≤ 9223372036854775807) by omega, show (1 + 1 + 1 + 1 ≤ 9223372036854775807) by omega, show (1 + 1 + 1 + 1 + 1 ≤ 9223372036854775807) by omega, if_true]
  exact text_i hR hC hl ⟨by omega, by omega⟩ hx (by simp only [ByteArray.size_append, dg_size, sp_size]; omega)
theorem MatrixText_s (p r c : Int) (l : List Int) : Ev (fun k => spec_MatrixText.f k p r c l) (textI p r c l) := by
  unfold spec_MatrixText.f textI
  refine Ev.bind (IsMatrix_s p r c l) ?_
  cases h : isMatrix p r c l
  · simp only [Bool.false_eq_true, if_false]; exact Ev.now _
  obtain ⟨R, C, rfl, rfl, hR, hC, hl, h2, h7, hf, hx⟩ := matrix_parts h
  obtain ⟨P, rfl⟩ := Int.eq_ofNat_of_zero_le (show 0 ≤ p by omega)
  simp only [if_true, Int.toNat_natCast]
  refine Ev.bind (Format_s (show P < 10 by omega)) ?_
  simp only [dg_size, if_pos (show (1 + 1 ≤ 9223372036854775807) by omega)]
  refine Ev.bind (Format_s (show R < 10 by omega)) ?_
  simp only [ByteArray.size_append, dg_size, sp_size, if_pos (show (1 + 1 + 1 ≤ 9223372036854775807) by omega), if_pos (show (1 + 1 + 1 + 1 ≤ 9223372036854775807) by omega)]
  refine Ev.bind (Format_s (show C < 10 by omega)) ?_
  simp only [ByteArray.size_append, dg_size, sp_size, if_pos (show (1 + 1 + 1 + 1 + 1 ≤ 9223372036854775807) by omega)]
  exact text_s hR hC hl ⟨by omega, by omega⟩ hx (by simp only [ByteArray.size_append, dg_size, sp_size]; omega)
end Go.Proofs.YtopkfhnnapncgaaDoor.L
end
section
namespace Go.Proofs.YtopkfhnnapncgaaDoor.Pure
open Go.RowKit Go.Proofs.YtopkfhnnapncgaaDoor.F Go.Proofs.YtopkfhnnapncgaaDoor.L Go.Proofs.YtopkfhnnapncgaaDoorW.PrintWords Go.Proofs.YtopkfhnnapncgaaDoorW.PrintLast Go.Proofs.YtopkfhnnapncgaaDoorW.PrintMore
theorem FnExactMatrixText (p r c : Int) (l : List Int) (_ : (Lit.int .i64 p).wf = true) (_ : (Lit.int .i64 r).wf = true) (_ : (Lit.int .i64 c).wf = true) (hl : l.length * 8 ≤ 140737488351232) (_ : ∀ x ∈ l, (Lit.int .i64 x).wf = true) :
    ∃ k, laws_FnExactMatrixText.f k p r c l = some true := by
  have h1 : l.length ≤ 17592186044416 := by omega
  refine Ev.rounds ?_
  unfold laws_FnExactMatrixText.f
  obtain ⟨n, hn, hb⟩ := szMatrix p r c l 1048576 h1 (by decide) (by decide)
  simp only [hn, Option.bind_some]
  by_cases h : n < 0
  · simp only [h, if_true]; exact Ev.now _
  simp only [h, if_false]
  refine Ev.bind (toMatrix p r c l h1) (Ev.bind (MatrixText_s p r c l) (Ev.bind (toMatrix p r c l h1) (Ev.bind (MatrixText_i p r c l) ?_)))
  simp only [if_true]
  refine Ev.bind (toMatrix p r c l h1) (Ev.bind (eqMatrix p r c l p r c l h1) ?_)
  simp only [decide_true, if_true]
  exact Ev.now _
end Go.Proofs.YtopkfhnnapncgaaDoor.Pure
end
section
namespace Go.Proofs.YtopkfhnnapncgaaDoor.fnExactMatrixText
open Go.ChangeShapes Go.WideShapes Go.ChangeAt Go.RowKit Go.Joins
open Go.ChangeMaps (open_string shut_string)
set_option linter.unusedVariables false
set_option maxRecDepth 100000 in
theorem lifted (os : Os) (started : os.Started) (H : Type) (enc : TypeId × Value → H) :
    ReturnsInHanded {} Tryd.checked os 3 .any (fun w args => (Rows.fnExactMatrixTextSpec.pre enc Tryd.prog Tryd.f3 [] false w args ∧ laidMetH Tryd.prog Rows.fnExactMatrixTextRow.laid w) ∧ sizedMet enc Tryd.prog Tryd.f3 (OpenSpec.ofChange Rows.fnExactMatrixTextSpec) false w args)
      (Rows.fnExactMatrixTextSpec.post enc Tryd.prog Tryd.f3 false true false false) := by
  refine returnsInHanded_of_change_and (C := Tryd.checked) (X := fun w _ => laidMetH Tryd.prog Rows.fnExactMatrixTextRow.laid w) (fun _ _ _ hh h => h.of_heap hh) Open.own started (by kernel_rfl) Tryd.func3
    (ChangeSpec.witness_shaped (enc := enc) (C := Tryd.checked) (os := os) (X := fun w _ => laidMetH Tryd.prog Rows.fnExactMatrixTextRow.laid w) false (World.laidAll Tryd.prog os Rows.fnExactMatrixTextRow.laid) #[.agg #[.int .i64 0, .int .i64 0, .int .i64 0, .slice none 0 0]] 8 (World.laidAll_os _ _ _) (World.shaped_of_ZipB (by kernel_rfl) (by kernel_rfl)) (by kernel_rfl) (by kernel_rfl) (by kernel_rfl)
      (by rw [MakeChecks.laidMetH_plain _ _ _ (by kernel_rfl)]; exact laidMet_laidAll _ (by kernel_rfl) (by kernel_rfl))) ?_
  intro W base args ds gs before hval0 hW hcnd hsz0 hL _
  have hsz : (DataW.weightsEach Tryd.prog (Tryd.f3.params.toList ++ Rows.fnExactMatrixTextSpec.plain.varTypes Tryd.prog) (ds ++ gs)).all (· ≤ reachBytes) = true := hsz0
  have hval : ∀ (j : Nat) t v, Tryd.f3.params[j]? = some t → args[j]? = some v → Value.okWide Tryd.prog W .any base t v := hval0
  have hW' := hW
  obtain ⟨p, q, hA0, hV, rfl, hfz, hnd⟩ := hW
  have hA : DataW.TrodAll enc Tryd.prog W 0 (fun _ => true) true Tryd.f3.params.toList args.toList ds p := hA0
  rw [Tryd.params3] at hA hval hsz
  obtain ⟨v0, vs0, d0, ds0, p0, q0, hargs, rfl, rfl, h0, r0⟩ := trodAll_cons hA
  obtain ⟨rfl, rfl, rfl⟩ := trodAll_nil r0
  obtain rfl : args = #[v0] := by cases args; simp_all
  obtain ⟨rfl, rfl⟩ := trodVars_none hV
  have k0 := h0
  have lt0 : ∀ x ∈ p0, x.block < W.heap.size := by obtain ⟨m, hm⟩ := k0; exact DataW.trod_lt m _ _ _ hm
  obtain ⟨v0_0, v0_1, v0_2, v0_3, y0_0, y0_1, y0_2, y0_3, fuel0, rfl, hd0, hp0, t0_0, t0_1, t0_2, t0_3⟩ := open_agg4 Tryd.underlying24 (by kernel_rfl) (by kernel_rfl) (hval 0 24 v0 rfl rfl) h0
  have z0 : (DataW.weightsEach Tryd.prog [3, 3, 3, 22] [y0_0.1, y0_1.1, y0_2.1, y0_3.1]).all (· ≤ reachBytes) = true := Open.sized_agg hsz (j := 0) (t := 24) rfl (congrArg some hd0) Tryd.underlying24
  obtain ⟨a0_0, e0_0, _, w0_0⟩ := DataW.trod_int Tryd.underlying3 t0_0
  obtain rfl : v0_0 = _ := (List.cons.inj e0_0).1
  obtain ⟨a0_1, e0_1, _, w0_1⟩ := DataW.trod_int Tryd.underlying3 t0_1
  obtain rfl : v0_1 = _ := (List.cons.inj e0_1).1
  obtain ⟨a0_2, e0_2, _, w0_2⟩ := DataW.trod_int Tryd.underlying3 t0_2
  obtain rfl : v0_2 = _ := (List.cons.inj e0_2).1
  obtain ⟨A0_3, c0_3, l0_3, rfl, hr0_3, hc0_3, hn0_3, hw0_3⟩ := Open.open_row (j := 3) Tryd.underlying22 Tryd.underlying3 (by kernel_rfl) (by kernel_rfl) z0 rfl rfl t0_3
  obtain ⟨k, h⟩ := Pure.FnExactMatrixText a0_0 a0_1 a0_2 l0_3 w0_0 w0_1 w0_2 hn0_3 hw0_3
  refine (F.laws_FnExactMatrixText.calls (w := W) (hr0_3 := hr0_3) (hc0_3 := hc0_3) (h := h)).mono ?_
  rintro e W' ⟨he, hd⟩
  have bel : Below W.heap.size W W' := by first | exact hd | exact hd.below
  subst he
  exact ⟨_, rfl, _, _, _, [], _, [], hW', trodAll_mk1 (shut_bool Tryd.underlying4 _), (trodAll_cons_mk (Below.trod Open.laidOut (by kernel_rfl) (of_decide_eq_true (by kernel_rfl)) k0 bel lt0) trodAll_mk0), rfl, bel.frame _, fun h => by cases h⟩
theorem over : Rows.fnExactMatrixTextRow.holds Tryd.pinned (OpenSpec.ofChange Rows.fnExactMatrixTextSpec) :=
  OpenClaim.holds_of_wide 3 Tryd.f3 rfl rfl rfl rfl rfl rfl rfl ⟨rfl, rfl, rfl, rfl, rfl⟩ rfl rfl rfl rfl rfl (by kernel_rfl) Tryd.func3 (by kernel_rfl)
    (of_decide_eq_true (by kernel_rfl)) (by unfold Func.isWrapper; first | (rw [if_pos (by decide +kernel)]; kernel_rfl) | (rw [if_neg (by decide +kernel)]; exact ⟨rfl, rfl⟩))
    (fun os started H enc _ => lifted os started H enc)
theorem proved : Rows.FnExactMatrixTextSaid := over
end Go.Proofs.YtopkfhnnapncgaaDoor.fnExactMatrixText
namespace Go.Proofs.YtopkfhnnapncgaaDoor
/-- The row, under a short name, for the claim. -/
theorem fnExactMatrixText_holds : Rows.FnExactMatrixTextSaid := fnExactMatrixText.proved
/-- The tied card, for the claim. -/
theorem fnExactMatrixTextCard_holds : Rows.FnExactMatrixTextCardSaid :=
  Claim7.holds_tied_plain_at .later [] [.data, .data, .data] true (true, "190d45c29f0828e72aa4a04e40bc6ddf51eafdc16b3f740170eaa5129be198ce") false fnExactMatrixText_holds (fun _ h => by cases h) (by kernel_rfl) (fun _ h => by cases h) fnExactMatrixText_row_tie rfl ⟨rfl, rfl⟩ (by kernel_rfl) rfl
    (fun f fn hf hfn => by
      obtain rfl : f = 3 := Option.some.inj ((show Tryd.prog.funcNamed "loop.example/g00593/laws.FnExactMatrixText" = some 3 by kernel_rfl).symm.trans hf) |>.symm
      obtain rfl : fn = Tryd.f3 := (Option.some.inj (Tryd.func3.symm.trans hfn)).symm
      exact ⟨by kernel_rfl, fun j t ht => by
        rw [Tryd.params3] at ht
        have hm : t ∈ [24] := by simpa using Array.mem_of_getElem? ht
        have hall : ([24].all fun u => !Tryd.prog.wantsStandIn u) = true := by kernel_rfl
        exact (show Tryd.prog.wantsStandIn t = false by simpa using List.all_eq_true.1 hall t hm)⟩) (by kernel_rfl)
#print axioms fnExactMatrixTextCard_holds
end Go.Proofs.YtopkfhnnapncgaaDoor
end
