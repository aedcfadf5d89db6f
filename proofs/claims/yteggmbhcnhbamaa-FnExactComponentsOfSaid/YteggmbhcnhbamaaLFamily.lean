/-
  Lists of sets, and how many elements a set has: of program and reference the same. Condition: lists of at most 2^44 elements, where that is said.
-/
import Derived.Test.YteggmbhcnhbamaaFx1
import Derived.Test.YteggmbhcnhbamaaFx11
import Derived.Test.YteggmbhcnhbamaaFx10
import Derived.Test.YteggmbhcnhbamaaFx2
import Derived.Test.YteggmbhcnhbamaaLSets
import Derived.Test.YteggmbhcnhbamaaMat
namespace Go.Proofs.Yteggmbhcnhbamaa.L
open Go.RowKit Go.Proofs.Yteggmbhcnhbamaa.F Go.Proofs.YteggmbhcnhbamaaW.PrintWords Go.Proofs.YteggmbhcnhbamaaW.PrintLast Go.Proofs.YteggmbhcnhbamaaW.PrintMore
open Go.Proofs.Yteggmbhcnhbamaa.Bits
open Go.Proofs.Yteggmbhcnhbamaa.Mt (sdiff bit_sdiff elems mem_elems cnt cnt_le full)
set_option linter.unusedSimpArgs false
set_option linter.unusedVariables false
/-! ### is a set in a list? -/
theorem any_range (l : List Int) (x : Int) : ((List.range l.length).any fun i => decide (l.getD i 0 = x)) = decide (x ∈ l) := by
  rw [Bool.eq_iff_iff]
  simp only [List.any_eq_true, List.mem_range, decide_eq_true_eq]
  constructor
  · rintro ⟨i, hi, h⟩
    rw [← h, List.getD_eq_getElem?_getD, List.getElem?_eq_getElem hi]; exact List.getElem_mem hi
  · intro h
    obtain ⟨i, hi, he⟩ := List.getElem_of_mem h
    exact ⟨i, hi, by rw [List.getD_eq_getElem?_getD, List.getElem?_eq_getElem hi]; exact he⟩
theorem HasSet_s (l : List Int) (x : Int) (hl : l.length ≤ 17592186044416) : Ev (fun k => spec_HasSet.f k l x) (decide (x ∈ l)) := by
  unfold spec_HasSet.f
  have h := loop_back (fun k i => spec_HasSet.l0 k l x i) l.length (fun i r => decide (l.getD i 0 = x) || r) false
    (by simp only [spec_HasSet.l0, show ¬ ((l.length : Int) < (l.length : Int)) by omega, if_false]; exact Ev.now _) fun i hi r hr => by
      simp only [spec_HasSet.l0, show ((i : Int) < (l.length : Int)) by omega, show (0 : Int) ≤ (i : Int) by omega, if_true, rd_getD, wrap_succ (show i < 9223372036854775807 by omega)]
      by_cases h : l.getD i 0 = x
      · simp only [h, if_true, decide_true, Bool.true_or]; exact Ev.now _
      · simp only [h, if_false, decide_false, Bool.false_or]; exact hr
  rw [foldr_any, Bool.or_false, any_range] at h
  exact h
theorem HasSet_i (l : List Int) (x : Int) (hl : l.length ≤ 17592186044416) : Ev (fun k => impl_HasSet.f k l x) (decide (x ∈ l)) := by
  unfold impl_HasSet.f slices_Contains_int_int.f slices_Index_int_int.f
  have key : ∃ r : Int, Ev (fun k => slices_Index_int_int.l0 k l x (l.length : Int) 0) r ∧ decide (r ≥ 0) = decide (x ∈ l) := by
    refine ⟨(List.range l.length).foldr (fun i r => if x = l.getD i 0 then (i : Int) else r) (-1), ?_, ?_⟩
    · refine loop_back (fun k i => slices_Index_int_int.l0 k l x (l.length : Int) i) l.length _ (-1) ?_ fun i hi r hr => ?_
      · simp only [slices_Index_int_int.l0, show ¬ ((l.length : Int) < (l.length : Int)) by omega, if_false]; exact Ev.now _
      · simp only [slices_Index_int_int.l0, show ((i : Int) < (l.length : Int)) by omega, show (0 : Int) ≤ (i : Int) by omega, if_true, rd_getD, wrap_succ (show i < 9223372036854775807 by omega)]
        by_cases h : x = l.getD i 0
        · rw [if_pos h]; simp only [if_pos h]; exact Ev.now _
        · rw [if_neg h]; simp only [if_neg h]; exact hr
    · have hh : ∀ L : List Nat, (0 ≤ L.foldr (fun i r => if x = l.getD i 0 then (i : Int) else r) (-1)) ↔ (L.any fun i => decide (l.getD i 0 = x)) = true := by
        intro L
        induction L with
        | nil => simp
        | cons i t ih =>
          simp only [List.foldr_cons, List.any_cons, Bool.or_eq_true, decide_eq_true_eq]
          by_cases h : x = l.getD i 0
          · simp only [if_pos h]; exact ⟨fun _ => .inl h.symm, fun _ => by omega⟩
          · simp only [if_neg h]; rw [ih]; exact ⟨.inr, fun hh => hh.elim (fun e => absurd e.symm h) id⟩
      rw [← any_range, Bool.eq_iff_iff, decide_eq_true_eq]
      exact hh _
  obtain ⟨r, hr, e⟩ := key
  refine Ev.bind (Ev.bind hr (Ev.now _)) ?_
  rw [← e]; exact Ev.now _
/-! ### families: sets of n elements, each less than the next -/
def isSetB (n s : Int) : Bool := decide (0 ≤ n ∧ n ≤ 8 ∧ 0 ≤ s ∧ s < 2 ^ n.toNat)
def isFamily (n : Int) (l : List Int) : Bool := ((List.range l.length).all fun i => isSetB n (l.getD i 0) && (decide (i = 0) || decide (l.getD (i - 1) 0 < l.getD i 0))) && decide (0 ≤ n ∧ n ≤ 8)
theorem wrap_pred {i : Nat} (h : i < 9223372036854775807) (h0 : 0 < i) : wrap64 ((i : Int) - 1) = ((i - 1 : Nat) : Int) := by rw [wrap_in (by omega) (by omega)]; omega
theorem IsFamily_s (n : Int) (l : List Int) (hl : l.length ≤ 17592186044416) : Ev (fun k => spec_IsFamily.f k n l) (isFamily n l) := by
  unfold spec_IsFamily.f
  have h := loop_back (fun k i => spec_IsFamily.l0 k n l i) l.length (fun i r => (isSetB n (l.getD i 0) && (decide (i = 0) || decide (l.getD (i - 1) 0 < l.getD i 0))) && r) (decide (0 ≤ n ∧ n ≤ 8))
    (by simp only [spec_IsFamily.l0, show ¬ ((l.length : Int) < (l.length : Int)) by omega, if_false, l1In, Option.bind_some]; exact Ev.now _) fun i hi r hr => by
      simp only [spec_IsFamily.l0, show ((i : Int) < (l.length : Int)) by omega, show (0 : Int) ≤ (i : Int) by omega, if_true, rd_getD, IsSet_s, Option.bind_some, decide_eq_true_eq, wrap_succ (show i < 9223372036854775807 by omega)]
      unfold isSetB
      by_cases hs : 0 ≤ n ∧ n ≤ 8 ∧ 0 ≤ l.getD i 0 ∧ l.getD i 0 < 2 ^ n.toNat
      · simp only [hs, and_self, if_true, decide_true, Bool.true_and]
        by_cases h0 : i = 0
        · subst h0
          simp only [show ¬ (((0 : Nat) : Int) > 0) by omega, if_false, decide_true, Bool.true_or, Bool.true_and]; exact hr
        · simp only [show ((i : Int) > 0) by omega, if_true, wrap_pred (show i < 9223372036854775807 by omega) (Nat.pos_of_ne_zero h0), show (0 : Int) ≤ ((i - 1 : Nat) : Int) by omega, show ((i - 1 : Nat) : Int) < (l.length : Int) by omega, rd_getD, h0, decide_false, Bool.false_or]
          by_cases hc : l.getD (i - 1) 0 < l.getD i 0
          · simp only [show ¬ (l.getD (i - 1) 0 ≥ l.getD i 0) by omega, if_false, hc, decide_true, Bool.true_and]; exact hr
          · simp only [show (l.getD (i - 1) 0 ≥ l.getD i 0) by omega, if_true, hc, decide_false, Bool.false_and]; exact Ev.now _
      · simp only [if_neg hs, decide_eq_false hs, Bool.false_and]; exact Ev.now _
  rw [foldr_all] at h
  exact h
theorem IsFamily_i (n : Int) (l : List Int) (hl : l.length ≤ 17592186044416) : Ev (fun k => impl_IsFamily.f k n l) (isFamily n l) := by
  unfold impl_IsFamily.f
  have h := loop_back (fun k i => impl_IsFamily.l0 k n l l (l.length : Int) i) l.length (fun i r => (isSetB n (l.getD i 0) && (decide (i = 0) || decide (l.getD (i - 1) 0 < l.getD i 0))) && r) (decide (0 ≤ n ∧ n ≤ 8))
    (by simp only [impl_IsFamily.l0, show ¬ ((l.length : Int) < (l.length : Int)) by omega, if_false, isSize_i, Option.bind_some]; exact Ev.now _) fun i hi r hr => by
      simp only [impl_IsFamily.l0, show ((i : Int) < (l.length : Int)) by omega, show (0 : Int) ≤ (i : Int) by omega, if_true, rd_getD, IsSet_i, Option.bind_some, decide_eq_true_eq, wrap_succ (show i < 9223372036854775807 by omega)]
      unfold isSetB
      by_cases hs : 0 ≤ n ∧ n ≤ 8 ∧ 0 ≤ l.getD i 0 ∧ l.getD i 0 < 2 ^ n.toNat
      · simp only [hs, and_self, if_true, decide_true, Bool.true_and]
        by_cases h0 : i = 0
        · subst h0
          simp only [show ¬ (((0 : Nat) : Int) > 0) by omega, if_false, decide_true, Bool.true_or, Bool.true_and]; exact hr
        · simp only [show ((i : Int) > 0) by omega, if_true, wrap_pred (show i < 9223372036854775807 by omega) (Nat.pos_of_ne_zero h0), show (0 : Int) ≤ ((i - 1 : Nat) : Int) by omega, show ((i - 1 : Nat) : Int) < (l.length : Int) by omega, rd_getD, h0, decide_false, Bool.false_or]
          by_cases hc : l.getD (i - 1) 0 < l.getD i 0
          · simp only [show ¬ (l.getD i 0 ≤ l.getD (i - 1) 0) by omega, if_false, hc, decide_true, Bool.true_and]; exact hr
          · simp only [show (l.getD i 0 ≤ l.getD (i - 1) 0) by omega, if_true, hc, decide_false, Bool.false_and]; exact Ev.now _
      · simp only [if_neg hs, decide_eq_false hs, Bool.false_and]; exact Ev.now _
  rw [foldr_all] at h
  exact h
/-- What a family holds, in natural numbers. -/
theorem fam_parts {n : Int} {l : List Int} (h : isFamily n l = true) : ∃ (N : Nat) (B : List Nat), n = N ∧ N ≤ 8 ∧ l = ints B ∧ (∀ b ∈ B, b < 2 ^ N) ∧ B.Pairwise (· < ·) := by
  unfold isFamily at h
  simp only [Bool.and_eq_true, decide_eq_true_eq, List.all_eq_true, List.mem_range, Bool.or_eq_true] at h
  obtain ⟨h1, h2, h3⟩ := h
  obtain ⟨N, rfl⟩ := Int.eq_ofNat_of_zero_le h2
  have hset : ∀ i (hi : i < l.length), 0 ≤ l[i] ∧ l[i] < 2 ^ N := fun i hi => by
    have := (h1 i hi).1
    simp only [isSetB, decide_eq_true_eq, Int.toNat_natCast, List.getD_eq_getElem?_getD, List.getElem?_eq_getElem hi, Option.getD_some] at this
    exact ⟨this.2.2.1, this.2.2.2⟩
  have hstep : ∀ i (hi : i + 1 < l.length), l[i] < l[i + 1] := fun i hi => by
    have := (h1 (i + 1) hi).2
    simp only [Nat.succ_ne_zero, false_or, Nat.add_sub_cancel, List.getD_eq_getElem?_getD, List.getElem?_eq_getElem hi, List.getElem?_eq_getElem (show i < l.length by omega), Option.getD_some] at this
    exact this
  have hlt : ∀ j (hj : j < l.length) i (hi : i < j), l[i] < l[j] := by
    intro j
    induction j with
    | zero => intro _ i hi; omega
    | succ j ih =>
      intro hj i hi
      by_cases e : i = j
      · subst e; exact hstep i hj
      · exact Int.lt_trans (ih (by omega) i (by omega)) (hstep j hj)
  refine ⟨N, l.map Int.toNat, rfl, by omega, ?_, ?_, ?_⟩
  · apply List.ext_getElem (by simp [ints])
    intro i h1 h2
    have := (hset i h1).1
    simp [ints]; omega
  · intro b hb
    obtain ⟨x, hx, rfl⟩ := List.mem_map.1 hb
    obtain ⟨i, hi, rfl⟩ := List.getElem_of_mem hx
    have := hset i hi
    have e : (2 : Int) ^ N = ((2 ^ N : Nat) : Int) := by simp
    rw [e] at this
    generalize 2 ^ N = y at this ⊢
    omega
  · rw [List.pairwise_iff_getElem]
    intro i j hi hj hij
    simp only [List.length_map] at hi hj
    have := hlt j hj i hij
    have := (hset i hi).1
    simp only [List.getElem_map]; omega
/-! ### how many elements -/
def cntI (s : Int) : Nat := if isAny s then cnt s.toNat else 0
set_option maxRecDepth 100000 in
theorem ones_i : ∀ s : Nat, s < 256 → bits_OnesCount64.f (s : Int) = some (cnt s : Int) := by decide +kernel
theorem CountOf_i (s : Int) : impl_CountOf.f s = some (cntI s : Int) := by
  unfold impl_CountOf.f cntI
  rw [isAny_i]
  simp only [Option.bind_some]
  cases h : isAny s
  · simp
  · have hs : 0 ≤ s ∧ s < 256 := by simpa [isAny] using h
    obtain ⟨a, rfl⟩ := Int.eq_ofNat_of_zero_le hs.1
    rw [wrapu_in (by omega) (by omega)]
    simp only [if_true, bits_OnesCount.f, Option.bind_some, Int.toNat_natCast]
    rw [ones_i a (by omega)]; rfl
end Go.Proofs.Yteggmbhcnhbamaa.L
