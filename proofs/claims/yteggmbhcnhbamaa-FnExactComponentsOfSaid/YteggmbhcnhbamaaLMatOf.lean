/-
  A matroid in the mathematical sense, listed in order, is one for program and reference. No condition.
-/
import Derived.Test.YteggmbhcnhbamaaLSortSets
import Derived.Test.YteggmbhcnhbamaaMat2
namespace Go.Proofs.Yteggmbhcnhbamaa.L
open Go.RowKit Go.Proofs.Yteggmbhcnhbamaa.F Go.Proofs.YteggmbhcnhbamaaW.PrintWords Go.Proofs.YteggmbhcnhbamaaW.PrintLast Go.Proofs.YteggmbhcnhbamaaW.PrintMore
open Go.Proofs.Yteggmbhcnhbamaa.Bits
open Go.Proofs.Yteggmbhcnhbamaa.Mt (sdiff bit_sdiff elems mem_elems Mat ins del lt256)
set_option linter.unusedSimpArgs false
theorem isFamily_of {N : Nat} {B : List Nat} (hN : N ≤ 8) (hB : ∀ b ∈ B, b < 2 ^ N) (hs : B.Pairwise (· < ·)) : isFamily (N : Int) (ints B) = true := by
  have e2 : (2 : Int) ^ N = ((2 ^ N : Nat) : Int) := by simp
  unfold isFamily isSetB
  simp only [Bool.and_eq_true, decide_eq_true_eq, List.all_eq_true, List.mem_range, Bool.or_eq_true, Int.toNat_natCast, ints_length]
  refine ⟨fun i hi => ⟨?_, ?_⟩, by omega, by omega⟩
  · have := hB _ (List.getElem_mem hi)
    rw [show (ints B).getD i 0 = ((B[i] : Nat) : Int) by simp [ints, List.getElem?_eq_getElem hi], e2]
    omega
  · by_cases h0 : i = 0
    · exact .inl h0
    · right
      have := List.pairwise_iff_getElem.1 hs (i - 1) i (by omega) hi (by omega)
      rw [show (ints B).getD i 0 = ((B[i] : Nat) : Int) by simp [ints, List.getElem?_eq_getElem hi], show (ints B).getD (i - 1) 0 = ((B[i - 1] : Nat) : Int) by simp [ints, List.getElem?_eq_getElem (show i - 1 < B.length by omega)]]
      omega
theorem isMatroid_of {N : Nat} {B : List Nat} (M : Mat N B) (hs : B.Pairwise (· < ·)) : isMatroid (N : Int) (ints B) = true := by
  unfold isMatroid
  rw [isFamily_of M.size M.lt hs, toNat_ints]
  have h0 : 0 < B.length := List.length_pos_iff.2 M.ne
  have hb : matB B = true := by
    unfold matB exch
    simp only [List.all_eq_true, List.any_eq_true, decide_eq_true_eq]
    intro a ha b hb e he
    have h1 := (mem_elems.1 he).2
    rw [bit_sdiff] at h1
    simp only [Bool.and_eq_true, Bool.not_eq_true'] at h1
    obtain ⟨f, hf1, hf2, hf3⟩ := M.ex a ha b hb e h1.1 h1.2
    refine ⟨f, mem_elems.2 ⟨M.bit8 hb hf1, ?_⟩, hf3⟩
    rw [bit_sdiff, hf1, hf2]; rfl
  rw [hb, ints_length]; simp [h0]
/-- .. and for the sorted list of the same sets. -/
theorem isMatroid_sort {N : Nat} {B : List Nat} (M : Mat N B) : isMatroid (N : Int) (ints (sortN B)) = true :=
  isMatroid_of (M.congr fun _ => mem_sortN fun _ hb => M.lt8 hb) (sortN_sorted B)
theorem sort_mat {N : Nat} {B : List Nat} (M : Mat N B) : Mat N (sortN B) := M.congr fun _ => mem_sortN fun _ hb => M.lt8 hb
end Go.Proofs.Yteggmbhcnhbamaa.L
