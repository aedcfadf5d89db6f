/- Several texts of this session in one: LMinimal, LKnows, LCovering, LLists, LMark, LCase, PuFnExactCoveringFlats, LawFnExactCoveringFlats. Conditions: as each theorem says. -/
import Derived.Test.YtmeopnlkddflaaaZCoveringFlats3
import Derived.Test.YtmeopnlkddflaaaZCoveringFlats4
import Derived.Test.YtmeopnlkddflaaaZCoveringFlats5
import Derived.Test.YtmeopnlkddflaaaZCoveringFlats1
import Derived.Test.YtmeopnlkddflaaaRows
import Derived.Test.YtmeopnlkddflaaaZCoveringFlats0
import Derived.WalkKit
import Derived.ProofKit
import Derived.OpenShut
import Derived.ShutString
import Derived.ChangeOld
import Derived.Below
import Derived.SizedLaws
import Derived.Lib.SmallJoins
section
namespace Go.Proofs.Ytmeopnlkddflaaa.L
open Go.RowKit Go.Proofs.Ytmeopnlkddflaaa.F Go.Proofs.YtmeopnlkddflaaaW.PrintWords Go.Proofs.YtmeopnlkddflaaaW.PrintLast Go.Proofs.YtmeopnlkddflaaaW.PrintMore
open Go.Proofs.Ytmeopnlkddflaaa.Bits
open Go.Proofs.Ytmeopnlkddflaaa.Mt (sortI sortI_of sortI_sorted mem_sortI sortI_len sdiff sub sub_iff_and sub_iff_sdiff)
set_option linter.unusedSimpArgs false
set_option linter.unusedVariables false
/-- Is no other set of the list within s? -/
def least (L : List Nat) (s : Nat) : Bool := L.all fun t => decide (t = s) || !decide (t &&& s = t)
/-- The least sets of a list, in order. -/
def minN (L : List Nat) : List Nat := (List.range 256).filter fun s => decide (s ∈ L) && least L s
theorem minN_sorted (L : List Nat) : (minN L).Pairwise (· < ·) := range_sorted _ _
theorem minN_len (L : List Nat) : (minN L).length ≤ 256 := by
  have := List.length_filter_le (fun s => decide (s ∈ L) && least L s) (List.range 256)
  rwa [List.length_range] at this
theorem mem_minN {L : List Nat} (hL : ∀ x ∈ L, x < 256) {s : Nat} : s ∈ minN L ↔ s ∈ L ∧ ∀ t ∈ L, sub t s → t = s := by
  unfold minN least
  rw [List.mem_filter, List.mem_range, Bool.and_eq_true, decide_eq_true_eq, List.all_eq_true]
  constructor
  · rintro ⟨_, h1, h2⟩
    refine ⟨h1, fun t ht hs => ?_⟩
    have := h2 t ht
    rw [sub_iff_and] at hs
    simpa [hs] using this
  · rintro ⟨h1, h2⟩
    refine ⟨hL s h1, h1, fun t ht => ?_⟩
    by_cases hs : t &&& s = t
    · simp [h2 t ht (sub_iff_and.2 hs)]
    · simp [hs]
theorem ints_getD {L : List Nat} (i : Nat) (hi : i < L.length) : (ints L).getD i 0 = ((L.getD i 0 : Nat) : Int) := by simp [ints, List.getElem?_eq_getElem hi]
theorem range_all_nat (L : List Nat) (p : Nat → Bool) : (List.range L.length).all (fun i => p (L.getD i 0)) = L.all p := range_all_get L 0 p
theorem filter_take {p : Nat → Bool} (L : List Nat) (i : Nat) (hi : i < L.length) : (L.take (i + 1)).filter p = if p (L.getD i 0) = true then (L.take i).filter p ++ [L.getD i 0] else (L.take i).filter p := by
  rw [List.take_succ_eq_append_getElem hi, List.filter_append, show L.getD i 0 = L[i] by simp [List.getElem?_eq_getElem hi]]
  cases h : p L[i] <;> simp [h]
theorem l3Sets_s {L : List Nat} (hL : ∀ x ∈ L, x < 256) (hl : L.length ≤ 17592186044416) : Ev (fun k => spec_l3Sets.f k 8 (ints L)) true := by
  unfold spec_l3Sets.f
  have h := loop_all0 (fun k i => spec_l3Sets.l0 k 8 (ints L) i) L.length (fun _ => true)
    (fun k => by simp only [spec_l3Sets.l0, ints_length, show ¬ ((L.length : Int) < (L.length : Int)) by omega, if_false])
    (fun i hi k => by
      have hlt : L.getD i 0 < 256 := by rw [show L.getD i 0 = L[i] by simp [List.getElem?_eq_getElem hi]]; exact hL _ (List.getElem_mem hi)
      simp only [spec_l3Sets.l0, ints_length, show ((i : Int) < (L.length : Int)) by omega, show (0 : Int) ≤ (i : Int) by omega, if_true, rd_getD, ints_getD i hi, IsSet_s, Option.bind_some, decide_eq_true_eq, wrap_succ (show i < 9223372036854775807 by omega)]
      rw [if_pos ⟨by omega, by omega, by omega, by
        have e : (2 : Int) ^ (8 : Int).toNat = 256 := by decide
        rw [e]; omega⟩])
  have e : (List.range L.length).all (fun _ => true) = true := by simp
  rw [e] at h
  exact h
theorem min_fine {L : List Nat} (hL : ∀ x ∈ L, x < 256) (hl : L.length < 17592186044416) (out : List Int) (i : Nat) (hi : i < L.length) (r : List Int)
    (hcont : Ev (fun k => spec_MinimalSets.l0 k (ints L) (if least L (L.getD i 0) = true then out ++ [((L.getD i 0 : Nat) : Int)] else out) ((i + 1 : Nat) : Int)) r) (hout : out.length ≤ i) :
    Ev (fun k => spec_MinimalSets.l1 k (ints L) out (i : Int) true 0) r := by
  have hi8 : L.getD i 0 < 256 := by rw [show L.getD i 0 = L[i] by simp [List.getElem?_eq_getElem hi]]; exact hL _ (List.getElem_mem hi)
  have key := loop_reach (fun k (b : Bool) j => spec_MinimalSets.l1 k (ints L) out (i : Int) b j) L.length (fun b j => b && (decide (L.getD j 0 = L.getD i 0) || !decide (L.getD j 0 &&& L.getD i 0 = L.getD j 0))) (fun _ _ => True)
    (fun j b hj _ => ⟨trivial, fun r hr => by
      have hj8 : L.getD j 0 < 256 := by rw [show L.getD j 0 = L[j] by simp [List.getElem?_eq_getElem hj]]; exact hL _ (List.getElem_mem hj)
      simp only [spec_MinimalSets.l1, ints_length, show ((j : Int) < (L.length : Int)) by omega, show (0 : Int) ≤ (j : Int) by omega, show (0 : Int) ≤ (i : Int) by omega, show (i : Int) < (L.length : Int) by omega, if_true, rd_getD, ints_getD i hi, ints_getD j hj,
        wrap_succ (show j < 9223372036854775807 by omega)]
      generalize L.getD j 0 = t at hj8 hr ⊢
      generalize L.getD i 0 = s at hi8 hr ⊢
      cases b with
      | false => simp only [Bool.false_eq_true, if_false]; simpa using hr
      | true =>
        simp only [if_true]
        by_cases e : t = s
        · subst e; simp only [if_true]; simpa using hr
        · simp only [show ¬ ((t : Int) = (s : Int)) by omega, if_false, bits_and t s (by omega) (by omega)]
          rw [show ((((t &&& s : Nat) : Int) != (t : Int)) = !decide (t &&& s = t)) by
            rw [Bool.eq_iff_iff, bne_iff_ne, Bool.not_eq_true', decide_eq_false_iff_not]; omega]
          simpa [e] using hr⟩) true trivial
  refine key.2 _ (Ev.succ ?_)
  have hfold : ∀ (l : List Nat) (b : Bool) (p : Nat → Bool), l.foldl (fun b j => b && p j) b = (b && l.all p) := by
    intro l
    induction l with
    | nil => intro b p; simp
    | cons a l ih => intro b p; rw [List.foldl_cons, ih, List.all_cons, Bool.and_assoc]
  rw [hfold, Bool.true_and, range_all_nat L (fun t => decide (t = L.getD i 0) || !decide (t &&& L.getD i 0 = t))]
  have ef : (L.all fun t => decide (t = L.getD i 0) || !decide (t &&& L.getD i 0 = t)) = least L (L.getD i 0) := rfl
  rw [ef]
  simp only [spec_MinimalSets.l1, ints_length, show ¬ ((L.length : Int) < (L.length : Int)) by omega, if_false, show (0 : Int) ≤ (i : Int) by omega, show (i : Int) < (L.length : Int) by omega, if_true, rd_getD, ints_getD i hi,
    wrap_succ (show i < 9223372036854775807 by omega), show out.length < 17592186044416 by omega]
  cases hf : least L (L.getD i 0)
  · rw [hf] at hcont; simpa using hcont
  · rw [hf] at hcont; simpa using hcont
theorem MinimalSets_s {L : List Nat} (hL : ∀ x ∈ L, x < 256) (hl : L.length < 17592186044416) : Ev (fun k => spec_MinimalSets.f k (ints L)) (ints (minN L)) := by
  unfold spec_MinimalSets.f
  simp only [Option.bind_some]
  refine Ev.bind (l3Sets_s hL (by omega)) ?_
  simp only [if_true]
  have hlen : ∀ i, (ints ((L.take i).filter (least L))).length ≤ i := fun i => by
    have := List.length_filter_le (least L) (L.take i)
    rw [List.length_take] at this
    rw [ints_length]; omega
  have key := loop_reach (fun k out i => spec_MinimalSets.l0 k (ints L) out i) L.length (fun out i => if least L (L.getD i 0) = true then out ++ [((L.getD i 0 : Nat) : Int)] else out) (fun i out => out = ints ((L.take i).filter (least L)))
    (fun i out hi ho => ⟨by
      rw [filter_take L i hi, ho]
      split <;> simp [ints], fun r hr => by
      simp only [spec_MinimalSets.l0, ints_length, show ((i : Int) < (L.length : Int)) by omega, if_true]
      exact min_fine hL hl out i hi r hr (by rw [ho]; exact hlen i)⟩) [] (by simp [ints])
  refine key.2 _ (Ev.succ ?_)
  rw [key.1, List.take_length]
  simp only [spec_MinimalSets.l0, ints_length, show ¬ ((L.length : Int) < (L.length : Int)) by omega, if_false]
  have hf : ∀ x ∈ L.filter (least L), x < 256 := fun x hx => hL x (List.mem_filter.1 hx).1
  have hs := SortSets_s hf (by have := List.length_filter_le (least L) L; omega)
  have e : sortN (L.filter (least L)) = minN L := sorted_extN (sortN_sorted _) (minN_sorted L) fun s => by
    rw [mem_sortN hf, mem_minN hL, List.mem_filter]
    unfold least
    rw [List.all_eq_true]
    constructor
    · rintro ⟨h1, h2⟩
      refine ⟨h1, fun t ht hts => ?_⟩
      have := h2 t ht
      rw [sub_iff_and] at hts
      simpa [hts] using this
    · rintro ⟨h1, h2⟩
      refine ⟨h1, fun t ht => ?_⟩
      by_cases hts : t &&& s = t
      · simp [h2 t ht (sub_iff_and.2 hts)]
      · simp [hts]
  rw [e] at hs
  exact Ev.bind hs (Ev.now _)
theorem areSets_i {L : List Nat} (hL : ∀ x ∈ L, x < 256) (hl : L.length ≤ 17592186044416) : Ev (fun k => impl_areSets.f k (ints L)) true := by
  unfold impl_areSets.f
  rw [ints_length]
  have h := loop_all0 (fun k i => impl_areSets.l0 k (ints L) (L.length : Int) i) L.length (fun _ => true)
    (fun k => by simp only [impl_areSets.l0, show ¬ ((L.length : Int) < (L.length : Int)) by omega, if_false])
    (fun i hi k => by
      have hlt : L.getD i 0 < 256 := by rw [show L.getD i 0 = L[i] by simp [List.getElem?_eq_getElem hi]]; exact hL _ (List.getElem_mem hi)
      simp only [impl_areSets.l0, ints_length, show ((i : Int) < (L.length : Int)) by omega, show (0 : Int) ≤ (i : Int) by omega, if_true, rd_getD, ints_getD i hi, isAny_i, Option.bind_some, wrap_succ (show i < 9223372036854775807 by omega)]
      rw [isAny_nat hlt, if_pos rfl])
  have e : (List.range L.length).all (fun _ => true) = true := by simp
  rw [e] at h
  exact h
theorem anyO_eq (q : Int → Option Bool) (p : Nat → Bool) : ∀ L : List Nat, (∀ t ∈ L, q (t : Int) = some (p t)) → anyO q (ints L) = some (L.any p)
  | [], _ => rfl
  | t :: L, h => by
    have h1 := h t (List.mem_cons_self ..)
    have h2 := anyO_eq q p L fun s hs => h s (List.mem_cons_of_mem _ hs)
    simp only [ints, List.map_cons, anyO, List.any_cons] at h2 ⊢
    rw [h1, Option.bind_some]
    cases p t
    · simpa using h2
    · simp
theorem SortSets_i {L : List Nat} (hL : ∀ x ∈ L, x < 256) (hl : L.length ≤ 17592186044416) (k : Nat) : impl_SortSets.f k (ints L) = some (ints (sortN L)) := by
  unfold impl_SortSets.f
  rw [ints_length, if_pos hl, sortI_ints hL]
theorem MinimalSets_i {L : List Nat} (hL : ∀ x ∈ L, x < 256) (hl : L.length ≤ 17592186044416) : Ev (fun k => impl_MinimalSets.f k (ints L)) (ints (minN L)) := by
  unfold impl_MinimalSets.f
  rw [ints_length]
  simp only [hl, if_true]
  refine Ev.bind (areSets_i hL hl) ?_
  simp only [if_true, SortSets_i hL hl, Option.bind_some]
  have hS := sortN_len L
  have hlen : ∀ i, (ints (((sortN L).take i).filter (least L))).length ≤ i := fun i => by
    have := List.length_filter_le (least L) ((sortN L).take i)
    rw [List.length_take] at this
    rw [ints_length]; omega
  have key := loop_reach (fun k out i => impl_MinimalSets.l0 k (ints L) out (ints (sortN L)) i) (sortN L).length (fun out i => if least L ((sortN L).getD i 0) = true then out ++ [(((sortN L).getD i 0 : Nat) : Int)] else out) (fun i out => out = ints (((sortN L).take i).filter (least L)))
    (fun i out hi ho => ⟨by
      rw [filter_take (sortN L) i hi, ho]
      split <;> simp [ints], fun r hr => by
      have hout : out.length < 17592186044416 := by have := hlen i; rw [← ho] at this; omega
      have hs8 : (sortN L).getD i 0 < 256 := by
        rw [show (sortN L).getD i 0 = (sortN L)[i] by simp [List.getElem?_eq_getElem hi]]
        exact hL _ ((mem_sortN hL).1 (List.getElem_mem hi))
      have hq : anyO (impl_MinimalSets.q (((sortN L).getD i 0 : Nat) : Int)) (ints L) = some (!least L ((sortN L).getD i 0)) := by
        generalize (sortN L).getD i 0 = s at hs8
        have := anyO_eq (impl_MinimalSets.q (s : Int)) (fun t => !(decide (t = s) || !decide (t &&& s = t))) L fun t ht => by
          unfold impl_MinimalSets.q
          by_cases e : t = s
          · subst e; simp
          · rw [if_neg (by omega), IsSubset_i (hL t ht) hs8]; simp [e]
        rw [this]
        unfold least
        rw [List.not_all_eq_any_not]
      simp only [impl_MinimalSets.l0, ints_length, show ((i : Int) < ((sortN L).length : Int)) by omega, show (0 : Int) ≤ (i : Int) by omega, if_true, rd_getD, ints_getD i hi, wrap_succ (show i < 9223372036854775807 by omega), hq, Option.bind_some]
      cases h : least L ((sortN L).getD i 0)
      · rw [h] at hr; simpa using hr
      · rw [h] at hr; simp only [if_true] at hr; simpa [hout] using hr⟩) [] (by simp [ints])
  refine key.2 _ (Ev.succ ?_)
  rw [key.1, List.take_length]
  simp only [impl_MinimalSets.l0, ints_length, show ¬ (((sortN L).length : Int) < ((sortN L).length : Int)) by omega, if_false]
  refine Ev.some (congrArg ints ?_)
  refine sorted_extN (List.Pairwise.filter _ (sortN_sorted L)) (minN_sorted L) fun s => ?_
  rw [mem_minN hL, List.mem_filter, mem_sortN hL]
  unfold least
  rw [List.all_eq_true]
  constructor
  · rintro ⟨h1, h2⟩
    refine ⟨h1, fun t ht hts => ?_⟩
    have := h2 t ht
    rw [sub_iff_and] at hts
    simpa [hts] using this
  · rintro ⟨h1, h2⟩
    refine ⟨h1, fun t ht => ?_⟩
    by_cases hts : t &&& s = t
    · simp [h2 t ht (sub_iff_and.2 hts)]
    · simp [hts]
end Go.Proofs.Ytmeopnlkddflaaa.L
end
section
namespace Go.Proofs.Ytmeopnlkddflaaa.L
open Go.RowKit Go.Proofs.Ytmeopnlkddflaaa.F Go.Proofs.YtmeopnlkddflaaaW.PrintWords Go.Proofs.YtmeopnlkddflaaaW.PrintLast Go.Proofs.YtmeopnlkddflaaaW.PrintMore
open Go.Proofs.Ytmeopnlkddflaaa.Bits
theorem set_nat {N : Nat} {s : Int} (h : isSetB (N : Int) s = true) : ∃ S : Nat, s = S ∧ S < 2 ^ N := by
  simp only [isSetB, decide_eq_true_eq, Int.toNat_natCast] at h
  obtain ⟨S, rfl⟩ := Int.eq_ofNat_of_zero_le h.2.2.1
  refine ⟨S, rfl, ?_⟩
  have e : (2 : Int) ^ N = ((2 ^ N : Nat) : Int) := by simp
  rw [e] at h; omega
theorem knows_i (n : Int) (l : List Int) (s : Int) (hl : l.length ≤ 17592186044416) : Ev (fun k => impl_knows.f k n l s) (isMatroid n l && isSetB n s) := by
  unfold impl_knows.f
  refine Ev.bind (IsMatroid_i n l hl) ?_
  cases h : isMatroid n l
  · simp only [Bool.false_eq_true, if_false, Bool.false_and]; exact Ev.now _
  simp only [if_true, IsSet_i, Option.bind_some, Bool.true_and]
  exact Ev.now _
end Go.Proofs.Ytmeopnlkddflaaa.L
end
section
namespace Go.Proofs.Ytmeopnlkddflaaa.L
open Go.RowKit Go.Proofs.Ytmeopnlkddflaaa.F Go.Proofs.YtmeopnlkddflaaaW.PrintWords Go.Proofs.YtmeopnlkddflaaaW.PrintLast Go.Proofs.YtmeopnlkddflaaaW.PrintMore
open Go.Proofs.Ytmeopnlkddflaaa.Bits
open Go.Proofs.Ytmeopnlkddflaaa.Mt (sdiff cnt full Mat lt256 rk)
set_option linter.unusedSimpArgs false
set_option linter.unusedVariables false
/-- The other sets of a list that hold s. -/
def aboveN (F : List Nat) (s : Nat) : List Nat := F.filter fun t => !decide (t = s) && decide (s &&& t = s)
theorem aboveN_take {F : List Nat} {s : Nat} (i : Nat) (hi : i < F.length) : ints (aboveN (F.take (i + 1)) s) = if (!decide (F.getD i 0 = s) && decide (s &&& F.getD i 0 = s)) = true then ints (aboveN (F.take i) s) ++ [((F.getD i 0 : Nat) : Int)] else ints (aboveN (F.take i) s) := by
  unfold aboveN
  rw [filter_take F i hi]
  split <;> simp [ints]
theorem aboveN_len (F : List Nat) (s : Nat) : (aboveN F s).length ≤ F.length := List.length_filter_le ..
section
variable {F : List Nat}
theorem above_s (hF : ∀ t ∈ F, t < 256) (hl : F.length ≤ 256) {s : Nat} (hs : s < 256) : Ev (fun k => spec_CoveringFlats.l0 k (s : Int) (ints F) [] 0) (ints (minN (aboveN F s))) := by
  have key := loop_reach (fun k acc i => spec_CoveringFlats.l0 k (s : Int) (ints F) acc i) F.length (fun acc i => if (!decide (F.getD i 0 = s) && decide (s &&& F.getD i 0 = s)) = true then acc ++ [((F.getD i 0 : Nat) : Int)] else acc) (fun i acc => acc = ints (aboveN (F.take i) s))
    (fun i acc hi ha => ⟨by rw [aboveN_take i hi, ha], fun r hr => by
      have hacc : acc.length < 17592186044416 := by
        have := aboveN_len (F.take i) s
        rw [List.length_take] at this
        rw [ha, ints_length]; omega
      have ht : F.getD i 0 < 256 := by rw [show F.getD i 0 = F[i] by simp [List.getElem?_eq_getElem hi]]; exact hF _ (List.getElem_mem hi)
      have es := rd_get' (B := F) i hi
      generalize F.getD i 0 = t at ht es hr
      simp only [spec_CoveringFlats.l0, ints_length, show ((i : Int) < (F.length : Int)) by omega, show (0 : Int) ≤ (i : Int) by omega, if_true, es, wrap_succ (show i < 9223372036854775807 by omega), bits_and t s (by omega) (by omega), Nat.and_comm t s, hacc]
      by_cases h1 : t = s
      · subst h1; simp only [if_true]; simpa using hr
      · simp only [show ¬ ((t : Int) = (s : Int)) by omega, if_false]
        by_cases h2 : s &&& t = s
        · simp only [show (((s &&& t : Nat) : Int) = (s : Int)) by rw [h2], if_true]; simpa [h1, h2] using hr
        · simp only [show ¬ (((s &&& t : Nat) : Int) = (s : Int)) by omega, if_false]; simpa [h1, h2] using hr⟩) [] (by simp [aboveN, ints])
  refine key.2 _ (Ev.succ ?_)
  rw [key.1, List.take_length]
  simp only [spec_CoveringFlats.l0, ints_length, show ¬ ((F.length : Int) < (F.length : Int)) by omega, if_false]
  exact Ev.bind (MinimalSets_s (fun t ht => hF t (List.mem_filter.1 ht).1) (by have := aboveN_len F s; omega)) (Ev.now _)
theorem above_i (hF : ∀ t ∈ F, t < 256) (hl : F.length ≤ 256) {s : Nat} (hs : s < 256) : Ev (fun k => impl_CoveringFlats.l0 k (s : Int) [] (ints F) ((ints F).length : Int) 0) (ints (minN (aboveN F s))) := by
  rw [ints_length]
  have key := loop_reach (fun k acc i => impl_CoveringFlats.l0 k (s : Int) acc (ints F) (F.length : Int) i) F.length (fun acc i => if (!decide (F.getD i 0 = s) && decide (s &&& F.getD i 0 = s)) = true then acc ++ [((F.getD i 0 : Nat) : Int)] else acc) (fun i acc => acc = ints (aboveN (F.take i) s))
    (fun i acc hi ha => ⟨by rw [aboveN_take i hi, ha], fun r hr => by
      have hacc : acc.length < 17592186044416 := by
        have := aboveN_len (F.take i) s
        rw [List.length_take] at this
        rw [ha, ints_length]; omega
      have ht : F.getD i 0 < 256 := by rw [show F.getD i 0 = F[i] by simp [List.getElem?_eq_getElem hi]]; exact hF _ (List.getElem_mem hi)
      have es := rd_get' (B := F) i hi
      generalize F.getD i 0 = t at ht es hr
      simp only [impl_CoveringFlats.l0, ints_length, show ((i : Int) < (F.length : Int)) by omega, show (0 : Int) ≤ (i : Int) by omega, if_true, es, wrap_succ (show i < 9223372036854775807 by omega), IsSubset_i hs ht, Option.bind_some, decide_eq_true_eq, hacc]
      by_cases h1 : t = s
      · subst h1; simp only [if_true]; simpa using hr
      · simp only [show ¬ ((t : Int) = (s : Int)) by omega, if_false]
        by_cases h2 : s &&& t = s
        · simp only [h2, if_true]; simpa [h1, h2] using hr
        · simp only [h2, if_false]; simpa [h1, h2] using hr⟩) [] (by simp [aboveN, ints])
  refine key.2 _ (Ev.succ ?_)
  rw [key.1, List.take_length]
  simp only [impl_CoveringFlats.l0, ints_length, show ¬ ((F.length : Int) < (F.length : Int)) by omega, if_false]
  exact Ev.bind (MinimalSets_i (fun t ht => hF t (List.mem_filter.1 ht).1) (by have := aboveN_len F s; omega)) (Ev.now _)
end
def coverI (n : Int) (l : List Int) (s : Int) : List Int := if decide (s ∈ flatsI n l) = true then ints (minN (aboveN (flatsN n.toNat (l.map Int.toNat) (2 ^ n.toNat)) s.toNat)) else []
theorem coverI_length (n : Int) (l : List Int) (s : Int) : (coverI n l s).length ≤ 17592186044416 := by
  unfold coverI
  split
  · have := minN_len (aboveN (flatsN n.toNat (l.map Int.toNat) (2 ^ n.toNat)) s.toNat)
    rw [ints_length]; omega
  · simp
theorem mem_flatsN {N : Nat} {B : List Nat} {s : Nat} : s ∈ flatsN N B (2 ^ N) ↔ s < 2 ^ N ∧ clo B s 0 N = s := by
  unfold flatsN isFl
  rw [List.mem_filter, List.mem_range, decide_eq_true_eq]
theorem flats_len {N : Nat} {B : List Nat} (hN : N ≤ 8) : (flatsN N B (2 ^ N)).length ≤ 256 := by
  have hp : (2 : Nat) ^ N ≤ 2 ^ 8 := Nat.pow_le_pow_right (by decide) hN
  have := List.length_filter_le (isFl N B) (List.range (2 ^ N))
  rw [List.length_range] at this
  unfold flatsN; omega
theorem CoveringFlats_s (n : Int) (l : List Int) (s : Int) (hl : l.length ≤ 17592186044416) : Ev (fun k => spec_CoveringFlats.f k n l s) (coverI n l s) := by
  unfold spec_CoveringFlats.f coverI
  refine Ev.bind (Flats_s n l hl) (Ev.bind (HasSet_s _ s (flatsI_length n l)) ?_)
  by_cases hd : s ∈ flatsI n l
  · have hd' := hd
    unfold flatsI at hd
    cases h : isMatroid n l
    · rw [h] at hd; simp at hd
    rw [h] at hd
    simp only [decide_eq_true hd', if_true]
    unfold flatsI
    rw [h]
    obtain ⟨N, B, rfl, rfl, hp, M⟩ := mat_parts h
    simp only [if_true, toNat_ints, Int.toNat_natCast] at hd ⊢
    obtain ⟨S, hS, rfl⟩ := in_ints.1 hd
    rw [Int.toNat_natCast]
    exact above_s (fun t ht => lt256 M.size (mem_flatsN.1 ht).1) (flats_len M.size) (lt256 M.size (mem_flatsN.1 hS).1)
  · simp only [decide_eq_false hd, Bool.false_eq_true, if_false]; exact Ev.now _
theorem isFlat_i (n : Int) (l : List Int) (s : Int) (hl : l.length ≤ 17592186044416) : Ev (fun k => impl_isFlat.f k n l s) (decide (s ∈ flatsI n l)) := by
  unfold impl_isFlat.f flatsI
  refine Ev.bind (knows_i n l s hl) ?_
  cases h : isMatroid n l
  · simp only [Bool.false_and, Bool.false_eq_true, if_false]; exact Ev.some (by simp)
  obtain ⟨N, B, rfl, rfl, hp, M⟩ := mat_parts h
  rw [ints_length] at hl
  simp only [Bool.true_and, if_true, toNat_ints, Int.toNat_natCast]
  cases hs : isSetB (N : Int) s
  · simp only [Bool.false_eq_true, if_false]
    refine Ev.some ?_
    symm
    rw [decide_eq_false_iff_not]
    intro hm
    obtain ⟨S, hS, rfl⟩ := in_ints.1 hm
    have := (mem_flatsN.1 hS).1
    have hN := M.size
    simp only [isSetB, decide_eq_false_iff_not, Int.toNat_natCast] at hs
    apply hs
    have e : (2 : Int) ^ N = ((2 ^ N : Nat) : Int) := by simp
    rw [e]; omega
  · obtain ⟨S, rfl, hS⟩ := set_nat hs
    simp only [if_true]
    refine Ev.bind (clo_i M.size M.lt hl hS) (Ev.some ?_)
    rw [Bool.eq_iff_iff, beq_iff_eq, decide_eq_true_eq, in_ints]
    constructor
    · intro e; exact ⟨S, mem_flatsN.2 ⟨hS, by omega⟩, rfl⟩
    · rintro ⟨T, hT, e⟩
      have : T = S := by omega
      subst this
      have := (mem_flatsN.1 hT).2; omega
theorem CoveringFlats_i (n : Int) (l : List Int) (s : Int) (hl : l.length ≤ 17592186044416) : Ev (fun k => impl_CoveringFlats.f k n l s) (coverI n l s) := by
  unfold impl_CoveringFlats.f coverI
  refine Ev.bind (isFlat_i n l s hl) ?_
  by_cases hd : s ∈ flatsI n l
  · have hd' := hd
    unfold flatsI at hd
    cases h : isMatroid n l
    · rw [h] at hd; simp at hd
    rw [h] at hd
    simp only [decide_eq_true hd', if_true]
    obtain ⟨N, B, rfl, rfl, hp, M⟩ := mat_parts h
    rw [ints_length] at hl
    simp only [if_true, toNat_ints, Int.toNat_natCast] at hd ⊢
    obtain ⟨S, hS, rfl⟩ := in_ints.1 hd
    rw [Int.toNat_natCast]
    exact Ev.bind (flats_i M hl) (above_i (fun t ht => lt256 M.size (mem_flatsN.1 ht).1) (flats_len M.size) (lt256 M.size (mem_flatsN.1 hS).1))
  · simp only [decide_eq_false hd, Bool.false_eq_true, if_false]; exact Ev.now _
end Go.Proofs.Ytmeopnlkddflaaa.L
end
section
namespace Go.Proofs.Ytmeopnlkddflaaa.L
open Go.RowKit Go.Proofs.Ytmeopnlkddflaaa.F Go.Proofs.YtmeopnlkddflaaaW.PrintWords Go.Proofs.YtmeopnlkddflaaaW.PrintLast Go.Proofs.YtmeopnlkddflaaaW.PrintMore
open Go.Proofs.Ytmeopnlkddflaaa.Bits

theorem all_eq_range (l l' : List Int) (h : l.length = l'.length) : (List.range l.length).all (fun i => decide (l.getD i 0 = l'.getD i 0)) = decide (l = l') := by
  rw [Bool.eq_iff_iff, List.all_eq_true, decide_eq_true_iff]
  constructor
  · intro hh
    apply List.ext_getElem h
    intro i h1 h2
    have := hh i (by simpa using h1)
    simpa [List.getElem?_eq_getElem h1, List.getElem?_eq_getElem h2] using this
  · rintro rfl i _
    simp

theorem eqIntS (l l' : List Int) (h : l.length ≤ 17592186044416) : Ev (fun k => laws_eqIntS.f k l l') (decide (l = l')) := by
  unfold laws_eqIntS.f
  by_cases e : l.length = l'.length
  · simp only [show ((l.length : Int) = (l'.length : Int)) by omega, if_true]
    rw [← all_eq_range l l' e]
    refine loop_all0 _ _ _ (fun k => by simp only [laws_eqIntS.l0, show ¬ ((l.length : Int) < (l.length : Int)) by omega, if_false]) ?_
    intro i hi k
    simp only [laws_eqIntS.l0, show ((i : Int) < (l.length : Int)) by omega, show ((i : Int) < (l'.length : Int)) by omega, show (0 : Int) ≤ (i : Int) by omega, if_true, rd_getD, wrap_succ (show i < 9223372036854775807 by omega), decide_eq_true_eq]
  · simp only [show ¬ ((l.length : Int) = (l'.length : Int)) by omega, if_false]
    rw [show decide (l = l') = false by simp; rintro rfl; exact e rfl]
    exact Ev.now _

theorem szIntS (l : List Int) (n : Int) (h : l.length ≤ 17592186044416) (h0 : 0 ≤ n) (h1 : n ≤ 1048576) : laws_szIntS.f l n = some (if n < l.length then -1 else n - l.length) := by
  unfold laws_szIntS.f
  have hw : wrap64 (n - (l.length : Int)) = n - (l.length : Int) := wrap_in (by omega) (by omega)
  rw [hw]
  split
  · rw [if_pos (by omega)]
  · rw [if_neg (by omega)]

theorem fold_copy (l : List Int) : ∀ n, n ≤ l.length → (List.range n).foldl (fun a i => a.set i (l.getD i 0)) (List.replicate l.length 0) = l.take n ++ List.replicate (l.length - n) 0
  | 0, _ => by simp
  | n + 1, h => by
    rw [List.range_succ, List.foldl_append, fold_copy l n (by omega)]
    simp only [List.foldl_cons, List.foldl_nil]
    obtain ⟨m, hm⟩ : ∃ m, l.length - n = m + 1 := ⟨l.length - n - 1, by omega⟩
    rw [hm, List.replicate_succ, List.set_append_right _ _ (by simp; omega)]
    have : n - (List.take n l).length = 0 := by simp; omega
    rw [this, List.set_cons_zero, show l.length - (n + 1) = m by omega]
    have hg : l.getD n 0 = l[n] := by simp [List.getElem?_eq_getElem (show n < l.length by omega)]
    rw [List.take_succ_eq_append_getElem (by omega), List.append_assoc, List.singleton_append, hg]

theorem toIntS (l : List Int) (h : l.length ≤ 17592186044416) : Ev (fun k => laws_toIntS.f k l) l := by
  unfold laws_toIntS.f
  simp only [show (0 : Int) ≤ (l.length : Int) by omega, Int.toNat_natCast, show l.length ≤ 35184372088832 by omega, if_true]
  have key := loop_fold0 (fun k s i => laws_toIntS.l0 k l s i) l.length (fun a i => a.set i (l.getD i 0)) (fun _ s => s.length = l.length) id
    (fun s hs => by
      simp only [laws_toIntS.l0, show ¬ ((l.length : Int) < (l.length : Int)) by omega, if_false]
      exact Ev.now _)
    (fun i s hi hs => ⟨by simp [hs], fun r hr => by
      simp only [laws_toIntS.l0, show ((i : Int) < (l.length : Int)) by omega, show ((i : Int) < (s.length : Int)) by omega, show (0 : Int) ≤ (i : Int) by omega, if_true, Int.toNat_natCast, rd_getD, wrap_succ (show i < 9223372036854775807 by omega)]
      exact hr⟩) (List.replicate l.length 0) (by simp)
  rw [fold_copy l l.length (Nat.le_refl _)] at key
  simpa using key
end Go.Proofs.Ytmeopnlkddflaaa.L
end
section
namespace Go.Proofs.Ytmeopnlkddflaaa.L
open Go.RowKit Go.Proofs.Ytmeopnlkddflaaa.F Go.Proofs.YtmeopnlkddflaaaW.PrintWords Go.Proofs.YtmeopnlkddflaaaW.PrintLast Go.Proofs.YtmeopnlkddflaaaW.PrintMore
open Go.Proofs.Ytmeopnlkddflaaa.Bits
set_option linter.unusedSimpArgs false
/-- n numbers from m on. -/
def markL (n : Nat) (m : Int) : List Int := (List.range n).map fun i : Nat => m + (i : Int)
theorem markL_length (n : Nat) (m : Int) : (markL n m).length = n := by simp [markL]
theorem markL_get (n : Nat) (m : Int) (i : Nat) (h : i < n) : (markL n m).getD i 0 = m + i := by simp [markL, h]
theorem fold_mark (l : List Int) (m : Int) : ∀ n, n ≤ l.length → (List.range n).foldl (fun (s : List Int × Int) i => (s.1.set i s.2, s.2 + 1)) (l, m) = (markL n m ++ l.drop n, m + n)
  | 0, _ => by simp [markL]
  | n + 1, h => by
    rw [List.range_succ, List.foldl_append, fold_mark l m n (by omega)]
    simp only [List.foldl_cons, List.foldl_nil, Prod.mk.injEq]
    refine ⟨?_, by omega⟩
    rw [List.set_append_right _ _ (by rw [markL_length]; exact Nat.le_refl n), markL_length, Nat.sub_self, List.drop_eq_getElem_cons (by omega), List.set_cons_zero]
    simp [markL, List.range_succ]
theorem markIntS (l : List Int) (m : Int) (h : l.length ≤ 17592186044416) (h0 : 0 ≤ m) (h1 : m ≤ 140737488355328) : Ev (fun k => laws_markIntS.f k l m) (m + l.length, markL l.length m) := by
  unfold laws_markIntS.f
  have key := loop_fold0 (fun k (s : List Int × Int) i => laws_markIntS.l0 k s.1 s.2 i) l.length (fun s i => (s.1.set i s.2, s.2 + 1)) (fun i s => s.1.length = l.length ∧ s.2 = m + i) (fun s => (s.2, s.1))
    (fun s hs => by
      simp only [laws_markIntS.l0, hs.1, show ¬ ((l.length : Int) < (l.length : Int)) by omega, if_false]
      exact Ev.now _)
    (fun i s hi hs => ⟨⟨by simp [hs.1], by simp only [hs.2]; omega⟩, fun r hr => by
      have hw : wrap64 (s.2 + 1) = s.2 + 1 := wrap_in (by omega) (by omega)
      simp only [laws_markIntS.l0, hs.1, show ((i : Int) < (l.length : Int)) by omega, show (0 : Int) ≤ (i : Int) by omega, if_true, Int.toNat_natCast, hw, wrap_succ (show i < 9223372036854775807 by omega)]
      exact hr⟩) (l, m) ⟨rfl, by simp⟩
  rw [fold_mark l m l.length (Nat.le_refl _)] at key
  simpa using key
theorem heldIntS (n : Nat) (m : Int) (h : n ≤ 17592186044416) (h0 : 0 ≤ m) (h1 : m ≤ 140737488355328) : Ev (fun k => laws_heldIntS.f k (markL n m) m) (m + n) := by
  unfold laws_heldIntS.f
  have key := loop_fold0 (fun k (s : Int) i => laws_heldIntS.l0 k (markL n m) s i) n (fun s _ => s + 1) (fun i s => s = m + i) id
    (fun s hs => by
      simp only [laws_heldIntS.l0, markL_length, show ¬ ((n : Int) < (n : Int)) by omega, if_false]
      exact Ev.now _)
    (fun i s hi hs => ⟨by rw [hs]; omega, fun r hr => by
      have hw : wrap64 (s + 1) = s + 1 := wrap_in (by omega) (by omega)
      have hg : rd (markL n m) (i : Int) = s := by rw [rd_getD, markL_get n m i hi, hs]
      simp only [laws_heldIntS.l0, markL_length, hg, show ((i : Int) < (n : Int)) by omega, show (0 : Int) ≤ (i : Int) by omega, if_true, hw, wrap_succ (show i < 9223372036854775807 by omega)]
      exact hr⟩) m (by simp)
  have e : ∀ n : Nat, (List.range n).foldl (fun (s : Int) _ => s + 1) m = m + n := by
    intro n
    induction n with
    | zero => simp
    | succ n ih => rw [List.range_succ, List.foldl_append, ih]; simp; omega
  rw [e n] at key
  exact key
end Go.Proofs.Ytmeopnlkddflaaa.L
end
section
namespace Go.Proofs.Ytmeopnlkddflaaa.L
open Go.RowKit Go.Proofs.Ytmeopnlkddflaaa.F Go.Proofs.YtmeopnlkddflaaaW.PrintWords Go.Proofs.YtmeopnlkddflaaaW.PrintLast Go.Proofs.YtmeopnlkddflaaaW.PrintMore
open Go.Proofs.Ytmeopnlkddflaaa.Bits
set_option linter.unusedSimpArgs false
theorem szMatroid (n : Int) (l : List Int) (h : l.length ≤ 17592186044416) : ∃ m, laws_szMatroid.f n l 1048576 = some m ∧ (m < 0 ∨ (0 ≤ m ∧ l.length ≤ 1048576)) := by
  unfold laws_szMatroid.f
  rw [szIntS l 1048576 h (by decide) (by decide)]
  simp only [Option.bind_some]
  by_cases hn : (1048576 : Int) < (l.length : Int)
  · rw [if_pos hn, if_pos (by decide)]; exact ⟨_, rfl, .inl (by decide)⟩
  · rw [if_neg hn, if_neg (by omega)]; exact ⟨_, rfl, .inr (by omega)⟩
theorem toMatroid (n : Int) (l : List Int) (h : l.length ≤ 17592186044416) : Ev (fun k => laws_toMatroid.f k n l) (n, l) := by
  unfold laws_toMatroid.f; exact Ev.bind (toIntS l h) (Ev.now _)
theorem eqMatroid (n : Int) (l : List Int) (h : l.length ≤ 17592186044416) : Ev (fun k => laws_eqMatroid.f k n l n l) true := by
  unfold laws_eqMatroid.f
  simp only [if_true]
  refine Ev.bind (eqIntS l l h) ?_
  simp only [decide_true, if_true]; exact Ev.now _
theorem markMatroid (n : Int) (l : List Int) (h : l.length ≤ 17592186044416) : Ev (fun k => laws_markMatroid.f k n l 1) (1 + l.length, markL l.length 1) := by
  unfold laws_markMatroid.f; exact Ev.bind (markIntS l 1 h (by decide) (by decide)) (Ev.now _)
end Go.Proofs.Ytmeopnlkddflaaa.L
end
section
namespace Go.Proofs.Ytmeopnlkddflaaa.Pure
open Go.RowKit Go.Proofs.Ytmeopnlkddflaaa.F Go.Proofs.Ytmeopnlkddflaaa.L Go.Proofs.YtmeopnlkddflaaaW.PrintWords Go.Proofs.YtmeopnlkddflaaaW.PrintLast Go.Proofs.YtmeopnlkddflaaaW.PrintMore
set_option linter.unusedSimpArgs false
theorem FnExactCoveringFlats (n : Int) (l : List Int) (s : Int) (_ : (Lit.int .i64 n).wf = true) (hl : l.length * 8 ≤ 140737488351232) (_ : ∀ x ∈ l, (Lit.int .i64 x).wf = true) (_ : (Lit.int .i64 s).wf = true) :
    ∃ k, laws_FnExactCoveringFlats.f k n l s = some true := by
  have h1 : l.length ≤ 17592186044416 := by omega
  refine Ev.rounds ?_
  unfold laws_FnExactCoveringFlats.f
  obtain ⟨m, hm, hx⟩ := szMatroid n l h1
  simp only [hm, Option.bind_some]
  by_cases h : m < 0
  · simp only [h, if_true]; exact Ev.now _
  simp only [h, if_false]
  have hi := CoveringFlats_i n l s h1
  have h2 := coverI_length n l s
  refine Ev.bind (toMatroid n l h1) (Ev.bind (CoveringFlats_s n l s h1) (Ev.bind (toMatroid n l h1) (Ev.bind hi ?_)))
  generalize coverI n l s = t at hi h2 ⊢
  have he := eqIntS t t h2
  simp only [decide_true] at he
  have hh := heldIntS t.length 1 h2 (by omega) (by omega)
  refine Ev.bind he ?_
  simp only [if_true]
  refine Ev.bind (toMatroid n l h1) (Ev.bind (eqMatroid n l h1) ?_)
  simp only [if_true]
  refine Ev.bind (markMatroid n l h1) ?_
  simp only [show ¬ (1 + (l.length : Int) < 0) by omega, if_false]
  refine Ev.bind he ?_
  refine Ev.succ ?_
  simp only [laws_FnExactCoveringFlats.j0, Bool.not_true, Bool.false_eq_true, if_false]
  refine Ev.bind (markIntS t 1 h2 (by omega) (by omega)) (Ev.bind hh ?_)
  simp only [show ¬ (1 + (t.length : Int) < 0) by omega, if_false, if_true]
  refine Ev.bind (toMatroid n l h1) (Ev.bind hi (Ev.bind he ?_))
  simp only [if_true]
  refine Ev.bind hh ?_
  simp only [show ¬ (1 + (t.length : Int) < 0) by omega, if_false, if_true]
  exact Ev.now _
end Go.Proofs.Ytmeopnlkddflaaa.Pure
end
section
namespace Go.Proofs.Ytmeopnlkddflaaa.fnExactCoveringFlats
open Go.ChangeShapes Go.WideShapes Go.ChangeAt Go.RowKit Go.Joins
open Go.ChangeMaps (open_string shut_string)
set_option linter.unusedVariables false
set_option maxRecDepth 100000 in
theorem lifted (os : Os) (started : os.Started) (H : Type) (enc : TypeId × Value → H) :
    ReturnsInHanded {} Try.checked os 11 .any (Rows.fnExactCoveringFlatsSpec.pre6 enc Try.prog Try.f11 Rows.fnExactCoveringFlatsRow.domain false) (Rows.fnExactCoveringFlatsSpec.post enc Try.prog Try.f11 false true false false) := by
  refine returnsInHanded_of_change_sized (C := Try.checked) Open.own started (by kernel_rfl) Try.func11
    (ChangeSpec.witness6 (enc := enc) (C := Try.checked) false ⟨#[], #[.agg #[.int .i64 0, .slice none 0 0], .int .i64 0], []⟩ 8 (by kernel_rfl) (by kernel_rfl) (by kernel_rfl) (by kernel_rfl)) ?_
  intro W base args ds gs before hval0 hW hcnd hsz0 _
  have hsz : (DataW.weightsEach Try.prog (Try.f11.params.toList ++ Rows.fnExactCoveringFlatsSpec.plain.varTypes Try.prog) (ds ++ gs)).all (· ≤ reachBytes) = true := hsz0
  have hval : ∀ (j : Nat) t v, Try.f11.params[j]? = some t → args[j]? = some v → Value.okWide Try.prog W .any base t v := hval0
  have hW' := hW
  obtain ⟨p, q, hA0, hV, rfl, hfz, hnd⟩ := hW
  have hA : DataW.TrodAll enc Try.prog W 0 (fun _ => true) true Try.f11.params.toList args.toList ds p := hA0
  rw [Try.params11] at hA hval hsz
  obtain ⟨v0, vs0, d0, ds0, p0, q0, hargs, rfl, rfl, h0, r0⟩ := trodAll_cons hA
  obtain ⟨v1, vs1, d1, ds1, p1, q1, rfl, rfl, rfl, h1, r1⟩ := trodAll_cons r0
  obtain ⟨rfl, rfl, rfl⟩ := trodAll_nil r1
  obtain rfl : args = #[v0, v1] := by cases args; simp_all
  obtain ⟨rfl, rfl⟩ := trodVars_none hV
  have k0 := h0
  have lt0 : ∀ x ∈ p0, x.block < W.heap.size := by obtain ⟨m, hm⟩ := k0; exact DataW.trod_lt m _ _ _ hm
  obtain ⟨v0_0, v0_1, y0_0, y0_1, fuel0, rfl, hd0, hp0, t0_0, t0_1⟩ := open_agg2 Try.underlying24 (by kernel_rfl) (by kernel_rfl) (hval 0 24 v0 rfl rfl) h0
  have z0 : (DataW.weightsEach Try.prog [3, 22] [y0_0.1, y0_1.1]).all (· ≤ reachBytes) = true := Open.sized_agg hsz (j := 0) (t := 24) rfl (congrArg some hd0) Try.underlying24
  obtain ⟨a0_0, e0_0, _, w0_0⟩ := DataW.trod_int Try.underlying3 t0_0
  obtain rfl : v0_0 = _ := (List.cons.inj e0_0).1
  obtain ⟨A0_1, c0_1, l0_1, rfl, hr0_1, hc0_1, hn0_1, hw0_1⟩ := Open.open_row (j := 1) Try.underlying22 Try.underlying3 (by kernel_rfl) (by kernel_rfl) z0 rfl rfl t0_1
  obtain ⟨a1, rfl, rfl, rfl, w1⟩ := open_int Try.underlying3 (hval 1 3 v1 rfl rfl) h1
  obtain ⟨k, h⟩ := Pure.FnExactCoveringFlats a0_0 l0_1 a1 w0_0 hn0_1 hw0_1 w1
  refine (F.laws_FnExactCoveringFlats.calls (w := W) (hr0_1 := hr0_1) (hc0_1 := hc0_1) (h := h)).mono ?_
  rintro e W' ⟨he, hd⟩
  have bel : Below W.heap.size W W' := by first | exact hd | exact hd.below
  subst he
  exact ⟨_, rfl, _, _, _, [], _, [], hW', trodAll_mk1 (shut_bool Try.underlying4 _), (trodAll_cons_mk (Below.trod Open.laidOut (by kernel_rfl) (of_decide_eq_true (by kernel_rfl)) k0 bel lt0) (trodAll_cons_mk (shut_int Try.underlying3 w1) trodAll_mk0)), rfl, bel.frame _, fun h => by cases h⟩
theorem over : Rows.fnExactCoveringFlatsRow.holds Try.pinned (OpenSpec.ofChange Rows.fnExactCoveringFlatsSpec) :=
  OpenClaim.holds_of_wide 11 Try.f11 rfl rfl rfl rfl rfl rfl rfl ⟨rfl, rfl, rfl, rfl, rfl⟩ rfl rfl rfl rfl rfl (by kernel_rfl) Try.func11 (by kernel_rfl)
    (of_decide_eq_true (by kernel_rfl)) (by unfold Func.isWrapper; first | (rw [if_pos (by decide +kernel)]; kernel_rfl) | (rw [if_neg (by decide +kernel)]; exact ⟨rfl, rfl⟩))
    (fun os started H enc _ => lifted os started H enc)
theorem proved : Rows.FnExactCoveringFlatsSaid := over
end Go.Proofs.Ytmeopnlkddflaaa.fnExactCoveringFlats
namespace Go.Proofs.Ytmeopnlkddflaaa
/-- The row, under a short name, for the claim. -/
theorem fnExactCoveringFlats_holds : Rows.FnExactCoveringFlatsSaid := fnExactCoveringFlats.proved
#print axioms fnExactCoveringFlats_holds
end Go.Proofs.Ytmeopnlkddflaaa
end
