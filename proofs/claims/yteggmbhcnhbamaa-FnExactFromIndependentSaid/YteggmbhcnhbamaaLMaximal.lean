/-
  The greatest sets of a list: of program and reference the same. Condition: sets of eight elements, lists of less than 2^44.
-/
import Derived.Test.YteggmbhcnhbamaaFx29
import Derived.Test.YteggmbhcnhbamaaFx5
import Derived.Test.YteggmbhcnhbamaaFx2
import Derived.Test.YteggmbhcnhbamaaLMinimal
import Derived.Test.YteggmbhcnhbamaaGvMaximalSets
import Derived.Test.YteggmbhcnhbamaaLSubset
namespace Go.Proofs.Yteggmbhcnhbamaa.L
open Go.RowKit Go.Proofs.Yteggmbhcnhbamaa.F Go.Proofs.YteggmbhcnhbamaaW.PrintWords Go.Proofs.YteggmbhcnhbamaaW.PrintLast Go.Proofs.YteggmbhcnhbamaaW.PrintMore
open Go.Proofs.Yteggmbhcnhbamaa.Bits
open Go.Proofs.Yteggmbhcnhbamaa.Mt (sortI sortI_of sortI_sorted mem_sortI sortI_len sdiff sub sub_iff_and sub_iff_sdiff)
set_option linter.unusedSimpArgs false
set_option linter.unusedVariables false
/-- Does no other set of the list hold s? -/
def greatest (L : List Nat) (s : Nat) : Bool := L.all fun t => decide (t = s) || !decide (t &&& s = s)
/-- The greatest sets of a list, in order. -/
def maxN (L : List Nat) : List Nat := (List.range 256).filter fun s => decide (s ∈ L) && greatest L s
theorem maxN_sorted (L : List Nat) : (maxN L).Pairwise (· < ·) := range_sorted _ _
theorem maxN_len (L : List Nat) : (maxN L).length ≤ 256 := by
  have := List.length_filter_le (fun s => decide (s ∈ L) && greatest L s) (List.range 256)
  rwa [List.length_range] at this
theorem maxN_lt {L : List Nat} {s : Nat} (h : s ∈ maxN L) : s < 256 := by
  unfold maxN at h
  rw [List.mem_filter, List.mem_range] at h; exact h.1
theorem mem_maxN {L : List Nat} (hL : ∀ x ∈ L, x < 256) {s : Nat} : s ∈ maxN L ↔ s ∈ L ∧ ∀ t ∈ L, sub s t → t = s := by
  unfold maxN greatest
  rw [List.mem_filter, List.mem_range, Bool.and_eq_true, decide_eq_true_eq, List.all_eq_true]
  constructor
  · rintro ⟨_, h1, h2⟩
    refine ⟨h1, fun t ht hs => ?_⟩
    have := h2 t ht
    rw [sub_iff_and, Nat.and_comm] at hs
    simpa [hs] using this
  · rintro ⟨h1, h2⟩
    refine ⟨hL s h1, h1, fun t ht => ?_⟩
    by_cases hs : t &&& s = s
    · simp [h2 t ht (sub_iff_and.2 (by rw [Nat.and_comm]; exact hs))]
    · simp [hs]
theorem max_fine {L : List Nat} (hL : ∀ x ∈ L, x < 256) (hl : L.length < 17592186044416) (out : List Int) (i : Nat) (hi : i < L.length) (r : List Int)
    (hcont : Ev (fun k => spec_MaximalSets.l0 k (ints L) (if greatest L (L.getD i 0) = true then out ++ [((L.getD i 0 : Nat) : Int)] else out) ((i + 1 : Nat) : Int)) r) (hout : out.length ≤ i) :
    Ev (fun k => spec_MaximalSets.l1 k (ints L) out (i : Int) true 0) r := by
  have hi8 : L.getD i 0 < 256 := by rw [show L.getD i 0 = L[i] by simp [List.getElem?_eq_getElem hi]]; exact hL _ (List.getElem_mem hi)
  have key := loop_reach (fun k (b : Bool) j => spec_MaximalSets.l1 k (ints L) out (i : Int) b j) L.length (fun b j => b && (decide (L.getD j 0 = L.getD i 0) || !decide (L.getD j 0 &&& L.getD i 0 = L.getD i 0))) (fun _ _ => True)
    (fun j b hj _ => ⟨trivial, fun r hr => by
      have hj8 : L.getD j 0 < 256 := by rw [show L.getD j 0 = L[j] by simp [List.getElem?_eq_getElem hj]]; exact hL _ (List.getElem_mem hj)
      simp only [spec_MaximalSets.l1, ints_length, show ((j : Int) < (L.length : Int)) by omega, show (0 : Int) ≤ (j : Int) by omega, show (0 : Int) ≤ (i : Int) by omega, show (i : Int) < (L.length : Int) by omega, if_true, rd_getD, ints_getD i hi, ints_getD j hj,
        wrap_succ (show j < 9223372036854775807 by omega)]
      generalize L.getD j 0 = t at hj8 hr ⊢
      generalize L.getD i 0 = s at hi8 hr ⊢
      cases b with
      | false => simp only [Bool.false_eq_true, if_false]; simpa using hr
      | true =>
        simp only [if_true]
        by_cases e : t = s
        · subst e; simp only [if_true]; simpa using hr
        · simp only [show ¬ ((t : Int) = (s : Int)) by omega, if_false, bits_and t s (by omega) (by omega)]
          rw [show ((((t &&& s : Nat) : Int) != (s : Int)) = !decide (t &&& s = s)) by
            rw [Bool.eq_iff_iff, bne_iff_ne, Bool.not_eq_true', decide_eq_false_iff_not]; omega]
          simpa [e] using hr⟩) true trivial
  refine key.2 _ (Ev.succ ?_)
  have hfold : ∀ (l : List Nat) (b : Bool) (p : Nat → Bool), l.foldl (fun b j => b && p j) b = (b && l.all p) := by
    intro l
    induction l with
    | nil => intro b p; simp
    | cons a l ih => intro b p; rw [List.foldl_cons, ih, List.all_cons, Bool.and_assoc]
  rw [hfold, Bool.true_and, range_all_nat L (fun t => decide (t = L.getD i 0) || !decide (t &&& L.getD i 0 = L.getD i 0))]
  have ef : (L.all fun t => decide (t = L.getD i 0) || !decide (t &&& L.getD i 0 = L.getD i 0)) = greatest L (L.getD i 0) := rfl
  rw [ef]
  simp only [spec_MaximalSets.l1, ints_length, show ¬ ((L.length : Int) < (L.length : Int)) by omega, if_false, show (0 : Int) ≤ (i : Int) by omega, show (i : Int) < (L.length : Int) by omega, if_true, rd_getD, ints_getD i hi,
    wrap_succ (show i < 9223372036854775807 by omega), show out.length < 17592186044416 by omega]
  cases hf : greatest L (L.getD i 0)
  · rw [hf] at hcont; simpa using hcont
  · rw [hf] at hcont; simpa using hcont
theorem MaximalSets_s {L : List Nat} (hL : ∀ x ∈ L, x < 256) (hl : L.length < 17592186044416) : Ev (fun k => spec_MaximalSets.f k (ints L)) (ints (maxN L)) := by
  unfold spec_MaximalSets.f
  simp only [Option.bind_some]
  refine Ev.bind (l3Sets_s hL (by omega)) ?_
  simp only [if_true]
  have hlen : ∀ i, (ints ((L.take i).filter (greatest L))).length ≤ i := fun i => by
    have := List.length_filter_le (greatest L) (L.take i)
    rw [List.length_take] at this
    rw [ints_length]; omega
  have key := loop_reach (fun k out i => spec_MaximalSets.l0 k (ints L) out i) L.length (fun out i => if greatest L (L.getD i 0) = true then out ++ [((L.getD i 0 : Nat) : Int)] else out) (fun i out => out = ints ((L.take i).filter (greatest L)))
    (fun i out hi ho => ⟨by
      rw [filter_take L i hi, ho]
      split <;> simp [ints], fun r hr => by
      simp only [spec_MaximalSets.l0, ints_length, show ((i : Int) < (L.length : Int)) by omega, if_true]
      exact max_fine hL hl out i hi r hr (by rw [ho]; exact hlen i)⟩) [] (by simp [ints])
  refine key.2 _ (Ev.succ ?_)
  rw [key.1, List.take_length]
  simp only [spec_MaximalSets.l0, ints_length, show ¬ ((L.length : Int) < (L.length : Int)) by omega, if_false]
  have hf : ∀ x ∈ L.filter (greatest L), x < 256 := fun x hx => hL x (List.mem_filter.1 hx).1
  have hs := SortSets_s hf (by have := List.length_filter_le (greatest L) L; omega)
  have e : sortN (L.filter (greatest L)) = maxN L := sorted_extN (sortN_sorted _) (maxN_sorted L) fun s => by
    rw [mem_sortN hf, mem_maxN hL, List.mem_filter]
    unfold greatest
    rw [List.all_eq_true]
    constructor
    · rintro ⟨h1, h2⟩
      refine ⟨h1, fun t ht hts => ?_⟩
      have := h2 t ht
      rw [sub_iff_and, Nat.and_comm] at hts
      simpa [hts] using this
    · rintro ⟨h1, h2⟩
      refine ⟨h1, fun t ht => ?_⟩
      by_cases hts : t &&& s = s
      · simp [h2 t ht (sub_iff_and.2 (by rw [Nat.and_comm]; exact hts))]
      · simp [hts]
  rw [e] at hs
  exact Ev.bind hs (Ev.now _)
theorem MaximalSets_i {L : List Nat} (hL : ∀ x ∈ L, x < 256) (hl : L.length ≤ 17592186044416) : Ev (fun k => impl_MaximalSets.f k (ints L)) (ints (maxN L)) := by
  unfold impl_MaximalSets.f
  rw [ints_length]
  simp only [hl, if_true]
  refine Ev.bind (areSets_i hL hl) ?_
  simp only [if_true, SortSets_i hL hl, Option.bind_some]
  have hS := sortN_len L
  have hlen : ∀ i, (ints (((sortN L).take i).filter (greatest L))).length ≤ i := fun i => by
    have := List.length_filter_le (greatest L) ((sortN L).take i)
    rw [List.length_take] at this
    rw [ints_length]; omega
  have key := loop_reach (fun k out i => impl_MaximalSets.l0 k (ints L) out (ints (sortN L)) i) (sortN L).length (fun out i => if greatest L ((sortN L).getD i 0) = true then out ++ [(((sortN L).getD i 0 : Nat) : Int)] else out) (fun i out => out = ints (((sortN L).take i).filter (greatest L)))
    (fun i out hi ho => ⟨by
      rw [filter_take (sortN L) i hi, ho]
      split <;> simp [ints], fun r hr => by
      have hout : out.length < 17592186044416 := by have := hlen i; rw [← ho] at this; omega
      have hs8 : (sortN L).getD i 0 < 256 := by
        rw [show (sortN L).getD i 0 = (sortN L)[i] by simp [List.getElem?_eq_getElem hi]]
        exact hL _ ((mem_sortN hL).1 (List.getElem_mem hi))
      have hq : anyO (impl_MaximalSets.q (((sortN L).getD i 0 : Nat) : Int)) (ints L) = some (!greatest L ((sortN L).getD i 0)) := by
        generalize (sortN L).getD i 0 = s at hs8
        have := anyO_eq (impl_MaximalSets.q (s : Int)) (fun t => !(decide (t = s) || !decide (t &&& s = s))) L fun t ht => by
          unfold impl_MaximalSets.q
          by_cases e : t = s
          · subst e; simp
          · rw [if_neg (by omega), IsSubset_i hs8 (hL t ht), Nat.and_comm]; simp [e]
        rw [this]
        unfold greatest
        rw [List.not_all_eq_any_not]
      simp only [impl_MaximalSets.l0, ints_length, show ((i : Int) < ((sortN L).length : Int)) by omega, show (0 : Int) ≤ (i : Int) by omega, if_true, rd_getD, ints_getD i hi, wrap_succ (show i < 9223372036854775807 by omega), hq, Option.bind_some]
      cases h : greatest L ((sortN L).getD i 0)
      · rw [h] at hr; simpa using hr
      · rw [h] at hr; simp only [if_true] at hr; simpa [hout] using hr⟩) [] (by simp [ints])
  refine key.2 _ (Ev.succ ?_)
  rw [key.1, List.take_length]
  simp only [impl_MaximalSets.l0, ints_length, show ¬ (((sortN L).length : Int) < ((sortN L).length : Int)) by omega, if_false]
  refine Ev.some (congrArg ints ?_)
  refine sorted_extN (List.Pairwise.filter _ (sortN_sorted L)) (maxN_sorted L) fun s => ?_
  rw [mem_maxN hL, List.mem_filter, mem_sortN hL]
  unfold greatest
  rw [List.all_eq_true]
  constructor
  · rintro ⟨h1, h2⟩
    refine ⟨h1, fun t ht hts => ?_⟩
    have := h2 t ht
    rw [sub_iff_and, Nat.and_comm] at hts
    simpa [hts] using this
  · rintro ⟨h1, h2⟩
    refine ⟨h1, fun t ht => ?_⟩
    by_cases hts : t &&& s = s
    · simp [h2 t ht (sub_iff_and.2 (by rw [Nat.and_comm]; exact hts))]
    · simp [hts]
end Go.Proofs.Yteggmbhcnhbamaa.L
