/-
  Complements of a list's sets, and duals: of program and reference the same. Condition: lists of less than 2^44 elements.
-/
import Derived.Test.YtkmcefhchhahhaaFx14
import Derived.Test.YtkmcefhchhahhaaFx17
import Derived.Test.YtkmcefhchhahhaaFx16
import Derived.Test.YtkmcefhchhahhaaFx18
import Derived.Test.YtkmcefhchhahhaaLComp
import Derived.Test.YtkmcefhchhahhaaLMatOf
import Derived.Test.YtkmcefhchhahhaaGvSort
import Derived.Test.YtkmcefhchhahhaaMat2
namespace Go.Proofs.Ytkmcefhchhahhaa.L
open Go.RowKit Go.Proofs.Ytkmcefhchhahhaa.F Go.Proofs.YtkmcefhchhahhaaW.PrintWords Go.Proofs.YtkmcefhchhahhaaW.PrintLast Go.Proofs.YtkmcefhchhahhaaW.PrintMore
open Go.Proofs.Ytkmcefhchhahhaa.Bits
open Go.Proofs.Ytkmcefhchhahhaa.Mt (sdiff full Mat lt256 co co_lt dualB)
set_option linter.unusedSimpArgs false
set_option linter.unusedVariables false
section
variable {N : Nat} {B : List Nat}
theorem sort_i {L : List Nat} (hL : ∀ x ∈ L, x < 256) (hl : L.length ≤ 17592186044416) (k : Nat) : impl_SortSets.f k (ints L) = some (ints (sortN L)) := by
  unfold impl_SortSets.f
  rw [ints_length, if_pos hl, sortI_ints hL]
theorem setN {N s : Nat} (hN : N ≤ 8) (hs : s < 2 ^ N) : 0 ≤ (N : Int) ∧ (N : Int) ≤ 8 ∧ 0 ≤ (s : Int) ∧ (s : Int) < 2 ^ (N : Int).toNat := by
  have e2 : (2 : Int) ^ N = ((2 ^ N : Nat) : Int) := by simp
  rw [Int.toNat_natCast, e2]; omega
theorem sets_s (hN : N ≤ 8) (hB : ∀ b ∈ B, b < 2 ^ N) (hl : B.length ≤ 17592186044416) : Ev (fun k => spec_l3Sets.f k N (ints B)) true := by
  unfold spec_l3Sets.f
  have h := loop_all0 (fun k i => spec_l3Sets.l0 k N (ints B) i) B.length (fun _ => true)
    (fun k => by simp only [spec_l3Sets.l0, ints_length, show ¬ ((B.length : Int) < (B.length : Int)) by omega, if_false])
    (fun i hi k => by
      have hb := getD_lt hB i hi
      have eb := rd_get' i hi
      simp only [spec_l3Sets.l0, ints_length, show ((i : Int) < (B.length : Int)) by omega, show (0 : Int) ≤ (i : Int) by omega, if_true, eb, IsSet_s, Option.bind_some, decide_eq_true_eq, wrap_succ (show i < 9223372036854775807 by omega)]
      rw [if_pos (setN hN hb)])
  have e : (List.range B.length).all (fun _ => true) = true := by simp
  rw [e] at h
  exact h
theorem setsOf_i (hN : N ≤ 8) (hB : ∀ b ∈ B, b < 2 ^ N) (hl : B.length ≤ 17592186044416) : Ev (fun k => impl_areSetsOf.f k N (ints B)) true := by
  unfold impl_areSetsOf.f
  rw [ints_length]
  have h := loop_back (fun k i => impl_areSetsOf.l0 k N (ints B) (B.length : Int) i) B.length (fun i r => r) true
    (by simp only [impl_areSetsOf.l0, show ¬ ((B.length : Int) < (B.length : Int)) by omega, if_false, isSize_i, Option.bind_some]; exact Ev.some (by rw [decide_eq_true_eq]; omega))
    (fun i hi r hr => by
      have hb := getD_lt hB i hi
      have eb := rd_get' i hi
      simp only [impl_areSetsOf.l0, ints_length, show ((i : Int) < (B.length : Int)) by omega, show (0 : Int) ≤ (i : Int) by omega, if_true, eb, IsSet_i, Option.bind_some, decide_eq_true_eq, wrap_succ (show i < 9223372036854775807 by omega)]
      simp only [if_pos (setN hN hb)]
      exact hr)
  have e : ∀ l : List Nat, l.foldr (fun (_ : Nat) (r : Bool) => r) true = true := by
    intro l; induction l with
    | nil => rfl
    | cons a l ih => exact ih
  rw [e] at h
  exact h
theorem dual_take (i : Nat) (hi : i < B.length) : ints (dualB N (B.take (i + 1))) = ints (dualB N (B.take i)) ++ [((co N (B.getD i 0) : Nat) : Int)] := by
  rw [List.take_succ_eq_append_getElem hi, show B.getD i 0 = B[i] by simp [List.getElem?_eq_getElem hi]]
  unfold dualB ints
  rw [List.map_append, List.map_append]; rfl
theorem dualB_lt256 (hN : N ≤ 8) : ∀ x ∈ dualB N B, x < 256 := fun x hx => by
  obtain ⟨b, _, rfl⟩ := List.mem_map.1 hx
  exact lt256 hN (co_lt N b)
theorem dualB_len : (dualB N B).length = B.length := by simp [dualB]
theorem ComplementSets_s (hN : N ≤ 8) (hB : ∀ b ∈ B, b < 2 ^ N) (hl : B.length < 17592186044416) : Ev (fun k => spec_ComplementSets.f k N (ints B)) (ints (sortN (dualB N B))) := by
  unfold spec_ComplementSets.f
  simp only [Option.bind_some, l1In, decide_eq_true_eq, show (0 : Int) ≤ (N : Int) ∧ (N : Int) ≤ 8 from ⟨by omega, by omega⟩, and_self, if_true]
  refine Ev.bind (sets_s hN hB (by omega)) (Ev.succ ?_)
  simp only [spec_ComplementSets.j0, Bool.not_true, Bool.false_eq_true, if_false]
  have key := loop_reach (fun k out i => spec_ComplementSets.l0 k N (ints B) out i) B.length (fun out i => out ++ [((co N (B.getD i 0) : Nat) : Int)]) (fun i out => out = ints (dualB N (B.take i)))
    (fun i out hi ho => ⟨by rw [dual_take i hi, ho], fun r hr => by
      have hout : out.length < 17592186044416 := by rw [ho, ints_length, dualB_len, List.length_take]; omega
      have hb := getD_lt hB i hi
      have eb := rd_get' i hi
      simp only [spec_ComplementSets.l0, ints_length, show ((i : Int) < (B.length : Int)) by omega, show (0 : Int) ≤ (i : Int) by omega, if_true, eb, FullSet_s hN, Option.bind_some, comp_s hN hb, hout, wrap_succ (show i < 9223372036854775807 by omega)]
      exact hr⟩) [] (by simp [dualB, ints])
  refine key.2 _ (Ev.succ ?_)
  rw [key.1, List.take_length]
  simp only [spec_ComplementSets.l0, ints_length, show ¬ ((B.length : Int) < (B.length : Int)) by omega, if_false]
  exact Ev.bind (SortSets_s (dualB_lt256 hN) (by rw [dualB_len]; exact hl)) (Ev.now _)
theorem ComplementSets_i (hN : N ≤ 8) (hB : ∀ b ∈ B, b < 2 ^ N) (hl : B.length < 17592186044416) : Ev (fun k => impl_ComplementSets.f k N (ints B)) (ints (sortN (dualB N B))) := by
  unfold impl_ComplementSets.f
  refine Ev.bind (setsOf_i hN hB (by omega)) ?_
  simp only [if_true, ints_length]
  have key := loop_reach (fun k out i => impl_ComplementSets.l0 k N out (ints B) (B.length : Int) i) B.length (fun out i => out ++ [((co N (B.getD i 0) : Nat) : Int)]) (fun i out => out = ints (dualB N (B.take i)))
    (fun i out hi ho => ⟨by rw [dual_take i hi, ho], fun r hr => by
      have hout : out.length < 17592186044416 := by rw [ho, ints_length, dualB_len, List.length_take]; omega
      have hb := getD_lt hB i hi
      have eb := rd_get' i hi
      simp only [impl_ComplementSets.l0, ints_length, show ((i : Int) < (B.length : Int)) by omega, show (0 : Int) ≤ (i : Int) by omega, if_true, eb, FullSet_i hN, Option.bind_some, comp_i hN hb, hout, wrap_succ (show i < 9223372036854775807 by omega)]
      exact hr⟩) [] (by simp [dualB, ints])
  refine key.2 _ (Ev.succ ?_)
  rw [key.1, List.take_length]
  simp only [impl_ComplementSets.l0, ints_length, show ¬ ((B.length : Int) < (B.length : Int)) by omega, if_false, sort_i (dualB_lt256 hN) (show (dualB N B).length ≤ 17592186044416 by rw [dualB_len]; omega), Option.bind_some]
  exact Ev.now _
end
/-- The dual of a matroid; nothing of anything else. -/
def dualI (n : Int) (l : List Int) : Int × List Int := if isMatroid n l = true then (n, ints (sortN (dualB n.toNat (l.map Int.toNat)))) else (0, [])
theorem dualI_length (n : Int) (l : List Int) : (dualI n l).2.length ≤ 17592186044416 := by
  unfold dualI
  split
  · have := sortN_len (dualB n.toNat (l.map Int.toNat))
    rw [ints_length]; omega
  · simp
theorem DualOf_s (n : Int) (l : List Int) (hl : l.length ≤ 17592186044416) : Ev (fun k => spec_DualOf.f k n l) (dualI n l) := by
  unfold spec_DualOf.f dualI
  refine Ev.bind (IsMatroid_s n l hl) ?_
  cases h : isMatroid n l
  · simp only [Bool.false_eq_true, if_false]; exact Ev.now _
  obtain ⟨N, B, rfl, rfl, hp, M⟩ := mat_parts h
  have := sorted_len (fun b hb => M.lt8 hb) hp
  simp only [if_true, toNat_ints, Int.toNat_natCast]
  exact Ev.bind (ComplementSets_s M.size M.lt (by omega)) (Ev.now _)
theorem DualOf_i (n : Int) (l : List Int) (hl : l.length ≤ 17592186044416) : Ev (fun k => impl_DualOf.f k n l) (dualI n l) := by
  unfold impl_DualOf.f dualI
  refine Ev.bind (IsMatroid_i n l hl) ?_
  cases h : isMatroid n l
  · simp only [Bool.false_eq_true, if_false]; exact Ev.now _
  obtain ⟨N, B, rfl, rfl, hp, M⟩ := mat_parts h
  have := sorted_len (fun b hb => M.lt8 hb) hp
  simp only [if_true, toNat_ints, Int.toNat_natCast]
  exact Ev.bind (ComplementSets_i M.size M.lt (by omega)) (Ev.now _)
end Go.Proofs.Ytkmcefhchhahhaa.L
