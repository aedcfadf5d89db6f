/-
  The least sets of a list: of program and reference the same. Condition: sets of eight elements, lists of less than 2^44.
-/
import Derived.Test.YteggmbhcnhbamaaFx9
import Derived.Test.YteggmbhcnhbamaaFx5
import Derived.Test.YteggmbhcnhbamaaFx2
import Derived.Test.YteggmbhcnhbamaaLSortSets
import Derived.Test.YteggmbhcnhbamaaGvMinimalSets
import Derived.Test.YteggmbhcnhbamaaLSubset
namespace Go.Proofs.Yteggmbhcnhbamaa.L
open Go.RowKit Go.Proofs.Yteggmbhcnhbamaa.F Go.Proofs.YteggmbhcnhbamaaW.PrintWords Go.Proofs.YteggmbhcnhbamaaW.PrintLast Go.Proofs.YteggmbhcnhbamaaW.PrintMore
open Go.Proofs.Yteggmbhcnhbamaa.Bits
open Go.Proofs.Yteggmbhcnhbamaa.Mt (sortI sortI_of sortI_sorted mem_sortI sortI_len sdiff sub sub_iff_and sub_iff_sdiff)
set_option linter.unusedSimpArgs false
set_option linter.unusedVariables false
/-- Is no other set of the list within s? -/
def least (L : List Nat) (s : Nat) : Bool := L.all fun t => decide (t = s) || !decide (t &&& s = t)
/-- The least sets of a list, in order. -/
def minN (L : List Nat) : List Nat := (List.range 256).filter fun s => decide (s ∈ L) && least L s
theorem minN_sorted (L : List Nat) : (minN L).Pairwise (· < ·) := range_sorted _ _
theorem minN_len (L : List Nat) : (minN L).length ≤ 256 := by
  have := List.length_filter_le (fun s => decide (s ∈ L) && least L s) (List.range 256)
  rwa [List.length_range] at this
theorem minN_lt {L : List Nat} {s : Nat} (h : s ∈ minN L) : s < 256 := by
  unfold minN at h
  rw [List.mem_filter, List.mem_range] at h; exact h.1
theorem mem_minN {L : List Nat} (hL : ∀ x ∈ L, x < 256) {s : Nat} : s ∈ minN L ↔ s ∈ L ∧ ∀ t ∈ L, sub t s → t = s := by
  unfold minN least
  rw [List.mem_filter, List.mem_range, Bool.and_eq_true, decide_eq_true_eq, List.all_eq_true]
  constructor
  · rintro ⟨_, h1, h2⟩
    refine ⟨h1, fun t ht hs => ?_⟩
    have := h2 t ht
    rw [sub_iff_and] at hs
    simpa [hs] using this
  · rintro ⟨h1, h2⟩
    refine ⟨hL s h1, h1, fun t ht => ?_⟩
    by_cases hs : t &&& s = t
    · simp [h2 t ht (sub_iff_and.2 hs)]
    · simp [hs]
theorem ints_getD {L : List Nat} (i : Nat) (hi : i < L.length) : (ints L).getD i 0 = ((L.getD i 0 : Nat) : Int) := by simp [ints, List.getElem?_eq_getElem hi]
theorem ints_take (L : List Nat) (i : Nat) : ints (L.take i) = (ints L).take i := by simp [ints, List.map_take]
theorem range_all_nat (L : List Nat) (p : Nat → Bool) : (List.range L.length).all (fun i => p (L.getD i 0)) = L.all p := range_all_get L 0 p
theorem filter_take {p : Nat → Bool} (L : List Nat) (i : Nat) (hi : i < L.length) : (L.take (i + 1)).filter p = if p (L.getD i 0) = true then (L.take i).filter p ++ [L.getD i 0] else (L.take i).filter p := by
  rw [List.take_succ_eq_append_getElem hi, List.filter_append, show L.getD i 0 = L[i] by simp [List.getElem?_eq_getElem hi]]
  cases h : p L[i] <;> simp [h]
theorem l3Sets_s {L : List Nat} (hL : ∀ x ∈ L, x < 256) (hl : L.length ≤ 17592186044416) : Ev (fun k => spec_l3Sets.f k 8 (ints L)) true := by
  unfold spec_l3Sets.f
  have h := loop_all0 (fun k i => spec_l3Sets.l0 k 8 (ints L) i) L.length (fun _ => true)
    (fun k => by simp only [spec_l3Sets.l0, ints_length, show ¬ ((L.length : Int) < (L.length : Int)) by omega, if_false])
    (fun i hi k => by
      have hlt : L.getD i 0 < 256 := by rw [show L.getD i 0 = L[i] by simp [List.getElem?_eq_getElem hi]]; exact hL _ (List.getElem_mem hi)
      simp only [spec_l3Sets.l0, ints_length, show ((i : Int) < (L.length : Int)) by omega, show (0 : Int) ≤ (i : Int) by omega, if_true, rd_getD, ints_getD i hi, IsSet_s, Option.bind_some, decide_eq_true_eq, wrap_succ (show i < 9223372036854775807 by omega)]
      rw [if_pos ⟨by omega, by omega, by omega, by
        have e : (2 : Int) ^ (8 : Int).toNat = 256 := by decide
        rw [e]; omega⟩])
  have e : (List.range L.length).all (fun _ => true) = true := by simp
  rw [e] at h
  exact h
theorem min_fine {L : List Nat} (hL : ∀ x ∈ L, x < 256) (hl : L.length < 17592186044416) (out : List Int) (i : Nat) (hi : i < L.length) (r : List Int)
    (hcont : Ev (fun k => spec_MinimalSets.l0 k (ints L) (if least L (L.getD i 0) = true then out ++ [((L.getD i 0 : Nat) : Int)] else out) ((i + 1 : Nat) : Int)) r) (hout : out.length ≤ i) :
    Ev (fun k => spec_MinimalSets.l1 k (ints L) out (i : Int) true 0) r := by
  have hi8 : L.getD i 0 < 256 := by rw [show L.getD i 0 = L[i] by simp [List.getElem?_eq_getElem hi]]; exact hL _ (List.getElem_mem hi)
  have key := loop_reach (fun k (b : Bool) j => spec_MinimalSets.l1 k (ints L) out (i : Int) b j) L.length (fun b j => b && (decide (L.getD j 0 = L.getD i 0) || !decide (L.getD j 0 &&& L.getD i 0 = L.getD j 0))) (fun _ _ => True)
    (fun j b hj _ => ⟨trivial, fun r hr => by
      have hj8 : L.getD j 0 < 256 := by rw [show L.getD j 0 = L[j] by simp [List.getElem?_eq_getElem hj]]; exact hL _ (List.getElem_mem hj)
      simp only [spec_MinimalSets.l1, ints_length, show ((j : Int) < (L.length : Int)) by omega, show (0 : Int) ≤ (j : Int) by omega, show (0 : Int) ≤ (i : Int) by omega, show (i : Int) < (L.length : Int) by omega, if_true, rd_getD, ints_getD i hi, ints_getD j hj,
        wrap_succ (show j < 9223372036854775807 by omega)]
      generalize L.getD j 0 = t at hj8 hr ⊢
      generalize L.getD i 0 = s at hi8 hr ⊢
      cases b with
      | false => simp only [Bool.false_eq_true, if_false]; simpa using hr
      | true =>
        simp only [if_true]
        by_cases e : t = s
        · subst e; simp only [if_true]; simpa using hr
        · simp only [show ¬ ((t : Int) = (s : Int)) by omega, if_false, bits_and t s (by omega) (by omega)]
          rw [show ((((t &&& s : Nat) : Int) != (t : Int)) = !decide (t &&& s = t)) by
            rw [Bool.eq_iff_iff, bne_iff_ne, Bool.not_eq_true', decide_eq_false_iff_not]; omega]
          simpa [e] using hr⟩) true trivial
  refine key.2 _ (Ev.succ ?_)
  have hfold : ∀ (l : List Nat) (b : Bool) (p : Nat → Bool), l.foldl (fun b j => b && p j) b = (b && l.all p) := by
    intro l
    induction l with
    | nil => intro b p; simp
    | cons a l ih => intro b p; rw [List.foldl_cons, ih, List.all_cons, Bool.and_assoc]
  rw [hfold, Bool.true_and, range_all_nat L (fun t => decide (t = L.getD i 0) || !decide (t &&& L.getD i 0 = t))]
  have ef : (L.all fun t => decide (t = L.getD i 0) || !decide (t &&& L.getD i 0 = t)) = least L (L.getD i 0) := rfl
  rw [ef]
  simp only [spec_MinimalSets.l1, ints_length, show ¬ ((L.length : Int) < (L.length : Int)) by omega, if_false, show (0 : Int) ≤ (i : Int) by omega, show (i : Int) < (L.length : Int) by omega, if_true, rd_getD, ints_getD i hi,
    wrap_succ (show i < 9223372036854775807 by omega), show out.length < 17592186044416 by omega]
  cases hf : least L (L.getD i 0)
  · rw [hf] at hcont; simpa using hcont
  · rw [hf] at hcont; simpa using hcont
theorem MinimalSets_s {L : List Nat} (hL : ∀ x ∈ L, x < 256) (hl : L.length < 17592186044416) : Ev (fun k => spec_MinimalSets.f k (ints L)) (ints (minN L)) := by
  unfold spec_MinimalSets.f
  simp only [Option.bind_some]
  refine Ev.bind (l3Sets_s hL (by omega)) ?_
  simp only [if_true]
  have hlen : ∀ i, (ints ((L.take i).filter (least L))).length ≤ i := fun i => by
    have := List.length_filter_le (least L) (L.take i)
    rw [List.length_take] at this
    rw [ints_length]; omega
  have key := loop_reach (fun k out i => spec_MinimalSets.l0 k (ints L) out i) L.length (fun out i => if least L (L.getD i 0) = true then out ++ [((L.getD i 0 : Nat) : Int)] else out) (fun i out => out = ints ((L.take i).filter (least L)))
    (fun i out hi ho => ⟨by
      rw [filter_take L i hi, ho]
      split <;> simp [ints], fun r hr => by
      simp only [spec_MinimalSets.l0, ints_length, show ((i : Int) < (L.length : Int)) by omega, if_true]
      exact min_fine hL hl out i hi r hr (by rw [ho]; exact hlen i)⟩) [] (by simp [ints])
  refine key.2 _ (Ev.succ ?_)
  rw [key.1, List.take_length]
  simp only [spec_MinimalSets.l0, ints_length, show ¬ ((L.length : Int) < (L.length : Int)) by omega, if_false]
  have hf : ∀ x ∈ L.filter (least L), x < 256 := fun x hx => hL x (List.mem_filter.1 hx).1
  have hs := SortSets_s hf (by have := List.length_filter_le (least L) L; omega)
  have e : sortN (L.filter (least L)) = minN L := sorted_extN (sortN_sorted _) (minN_sorted L) fun s => by
    rw [mem_sortN hf, mem_minN hL, List.mem_filter]
    unfold least
    rw [List.all_eq_true]
    constructor
    · rintro ⟨h1, h2⟩
      refine ⟨h1, fun t ht hts => ?_⟩
      have := h2 t ht
      rw [sub_iff_and] at hts
      simpa [hts] using this
    · rintro ⟨h1, h2⟩
      refine ⟨h1, fun t ht => ?_⟩
      by_cases hts : t &&& s = t
      · simp [h2 t ht (sub_iff_and.2 hts)]
      · simp [hts]
  rw [e] at hs
  exact Ev.bind hs (Ev.now _)
theorem areSets_i {L : List Nat} (hL : ∀ x ∈ L, x < 256) (hl : L.length ≤ 17592186044416) : Ev (fun k => impl_areSets.f k (ints L)) true := by
  unfold impl_areSets.f
  rw [ints_length]
  have h := loop_all0 (fun k i => impl_areSets.l0 k (ints L) (L.length : Int) i) L.length (fun _ => true)
    (fun k => by simp only [impl_areSets.l0, show ¬ ((L.length : Int) < (L.length : Int)) by omega, if_false])
    (fun i hi k => by
      have hlt : L.getD i 0 < 256 := by rw [show L.getD i 0 = L[i] by simp [List.getElem?_eq_getElem hi]]; exact hL _ (List.getElem_mem hi)
      simp only [impl_areSets.l0, ints_length, show ((i : Int) < (L.length : Int)) by omega, show (0 : Int) ≤ (i : Int) by omega, if_true, rd_getD, ints_getD i hi, isAny_i, Option.bind_some, wrap_succ (show i < 9223372036854775807 by omega)]
      rw [isAny_nat hlt, if_pos rfl])
  have e : (List.range L.length).all (fun _ => true) = true := by simp
  rw [e] at h
  exact h
theorem anyO_eq (q : Int → Option Bool) (p : Nat → Bool) : ∀ L : List Nat, (∀ t ∈ L, q (t : Int) = some (p t)) → anyO q (ints L) = some (L.any p)
  | [], _ => rfl
  | t :: L, h => by
    have h1 := h t (List.mem_cons_self ..)
    have h2 := anyO_eq q p L fun s hs => h s (List.mem_cons_of_mem _ hs)
    simp only [ints, List.map_cons, anyO, List.any_cons] at h2 ⊢
    rw [h1, Option.bind_some]
    cases p t
    · simpa using h2
    · simp
theorem SortSets_i {L : List Nat} (hL : ∀ x ∈ L, x < 256) (hl : L.length ≤ 17592186044416) (k : Nat) : impl_SortSets.f k (ints L) = some (ints (sortN L)) := by
  unfold impl_SortSets.f
  rw [ints_length, if_pos hl, sortI_ints hL]
theorem MinimalSets_i {L : List Nat} (hL : ∀ x ∈ L, x < 256) (hl : L.length ≤ 17592186044416) : Ev (fun k => impl_MinimalSets.f k (ints L)) (ints (minN L)) := by
  unfold impl_MinimalSets.f
  rw [ints_length]
  simp only [hl, if_true]
  refine Ev.bind (areSets_i hL hl) ?_
  simp only [if_true, SortSets_i hL hl, Option.bind_some]
  have hS := sortN_len L
  have hlen : ∀ i, (ints (((sortN L).take i).filter (least L))).length ≤ i := fun i => by
    have := List.length_filter_le (least L) ((sortN L).take i)
    rw [List.length_take] at this
    rw [ints_length]; omega
  have key := loop_reach (fun k out i => impl_MinimalSets.l0 k (ints L) out (ints (sortN L)) i) (sortN L).length (fun out i => if least L ((sortN L).getD i 0) = true then out ++ [(((sortN L).getD i 0 : Nat) : Int)] else out) (fun i out => out = ints (((sortN L).take i).filter (least L)))
    (fun i out hi ho => ⟨by
      rw [filter_take (sortN L) i hi, ho]
      split <;> simp [ints], fun r hr => by
      have hout : out.length < 17592186044416 := by have := hlen i; rw [← ho] at this; omega
      have hs8 : (sortN L).getD i 0 < 256 := by
        rw [show (sortN L).getD i 0 = (sortN L)[i] by simp [List.getElem?_eq_getElem hi]]
        exact hL _ ((mem_sortN hL).1 (List.getElem_mem hi))
      have hq : anyO (impl_MinimalSets.q (((sortN L).getD i 0 : Nat) : Int)) (ints L) = some (!least L ((sortN L).getD i 0)) := by
        generalize (sortN L).getD i 0 = s at hs8
        have := anyO_eq (impl_MinimalSets.q (s : Int)) (fun t => !(decide (t = s) || !decide (t &&& s = t))) L fun t ht => by
          unfold impl_MinimalSets.q
          by_cases e : t = s
          · subst e; simp
          · rw [if_neg (by omega), IsSubset_i (hL t ht) hs8]; simp [e]
        rw [this]
        unfold least
        rw [List.not_all_eq_any_not]
      simp only [impl_MinimalSets.l0, ints_length, show ((i : Int) < ((sortN L).length : Int)) by omega, show (0 : Int) ≤ (i : Int) by omega, if_true, rd_getD, ints_getD i hi, wrap_succ (show i < 9223372036854775807 by omega), hq, Option.bind_some]
      cases h : least L ((sortN L).getD i 0)
      · rw [h] at hr; simpa using hr
      · rw [h] at hr; simp only [if_true] at hr; simpa [hout] using hr⟩) [] (by simp [ints])
  refine key.2 _ (Ev.succ ?_)
  rw [key.1, List.take_length]
  simp only [impl_MinimalSets.l0, ints_length, show ¬ (((sortN L).length : Int) < ((sortN L).length : Int)) by omega, if_false]
  refine Ev.some (congrArg ints ?_)
  refine sorted_extN (List.Pairwise.filter _ (sortN_sorted L)) (minN_sorted L) fun s => ?_
  rw [mem_minN hL, List.mem_filter, mem_sortN hL]
  unfold least
  rw [List.all_eq_true]
  constructor
  · rintro ⟨h1, h2⟩
    refine ⟨h1, fun t ht hts => ?_⟩
    have := h2 t ht
    rw [sub_iff_and] at hts
    simpa [hts] using this
  · rintro ⟨h1, h2⟩
    refine ⟨h1, fun t ht => ?_⟩
    by_cases hts : t &&& s = t
    · simp [h2 t ht (sub_iff_and.2 hts)]
    · simp [hts]
end Go.Proofs.Yteggmbhcnhbamaa.L
