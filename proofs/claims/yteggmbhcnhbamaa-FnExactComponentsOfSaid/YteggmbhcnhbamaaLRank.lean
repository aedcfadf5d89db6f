/-
  Sizes and ranks: of program and reference the same. Condition: lists of at most 2^44 elements.
-/
import Derived.Test.YteggmbhcnhbamaaFx1
import Derived.Test.YteggmbhcnhbamaaFx14
import Derived.Test.YteggmbhcnhbamaaFx24
import Derived.Test.YteggmbhcnhbamaaFx11
import Derived.Test.YteggmbhcnhbamaaFx2
import Derived.Test.YteggmbhcnhbamaaLMatroid
namespace Go.Proofs.Yteggmbhcnhbamaa.L
open Go.RowKit Go.Proofs.Yteggmbhcnhbamaa.F Go.Proofs.YteggmbhcnhbamaaW.PrintWords Go.Proofs.YteggmbhcnhbamaaW.PrintLast Go.Proofs.YteggmbhcnhbamaaW.PrintMore
open Go.Proofs.Yteggmbhcnhbamaa.Bits
open Go.Proofs.Yteggmbhcnhbamaa.Mt (sdiff bit_sdiff elems mem_elems cnt cnt_le full ins del Mat lt256 rk)
set_option linter.unusedSimpArgs false
set_option linter.unusedVariables false
/-- The count, halving: a small number's bits. -/
theorem half_bits : ∀ s : Nat, s < 256 → cnt s = s % 2 + cnt (s / 2) := by decide +kernel
theorem count_loop : ∀ (d s : Nat) (x : Int), s < 2 ^ d → d ≤ 8 → 0 ≤ x → x + d ≤ 100 → Ev (fun k => spec_CountOf.l0 k (s : Int) x) (x + cnt s)
  | 0, s, x, hs, _, h0, h1 => by
    have : s = 0 := by simp at hs; exact hs
    subst this
    refine Ev.succ ?_
    simp only [spec_CountOf.l0, show ¬ (((0 : Nat) : Int) > 0) by omega, if_false]
    exact Ev.some (by rw [Mt.cnt_zero]; omega)
  | d + 1, s, x, hs, hd, h0, h1 => by
    refine Ev.succ ?_
    by_cases hz : s = 0
    · subst hz
      simp only [spec_CountOf.l0, show ¬ (((0 : Nat) : Int) > 0) by omega, if_false]
      exact Ev.some (by rw [Mt.cnt_zero]; omega)
    · have h256 : s < 256 := Nat.lt_of_lt_of_le hs (Nat.pow_le_pow_right (n := 2) (by decide) hd)
      have hb := half_bits s h256
      have e1 : Go.bits .and .i64 (s : Int) 1 = ((s % 2 : Nat) : Int) := by
        have := bits_and s 1 (by omega) (by omega)
        rw [show ((1 : Nat) : Int) = 1 from rfl] at this
        rw [this, Nat.and_one_is_mod]
      have e2 : (s : Int) / 2 = ((s / 2 : Nat) : Int) := by omega
      have hlt : s / 2 < 2 ^ d := by rw [Nat.pow_succ] at hs; omega
      simp only [spec_CountOf.l0, show ((s : Int) > 0) by omega, if_true, e1, e2]
      rw [wrap_in (by omega) (by omega)]
      have ih := count_loop d (s / 2) (x + ((s % 2 : Nat) : Int)) hlt (by omega) (by omega) (by omega)
      rw [show x + (cnt s : Int) = x + ((s % 2 : Nat) : Int) + (cnt (s / 2) : Int) by rw [hb]; omega]
      exact ih
theorem CountOf_s (s : Int) : Ev (fun k => spec_CountOf.f k s) (cntI s : Int) := by
  unfold spec_CountOf.f cntI isAny
  simp only [IsSet_s, Option.bind_some, decide_eq_true_eq]
  by_cases h : 0 ≤ s ∧ s < 256
  · obtain ⟨a, rfl⟩ := Int.eq_ofNat_of_zero_le h.1
    simp only [show (0 : Int) ≤ 8 ∧ (8 : Int) ≤ 8 ∧ (0 : Int) ≤ (a : Int) ∧ (a : Int) < 2 ^ (8 : Int).toNat from ⟨by omega, by omega, by omega, by simpa using h.2⟩, and_self, if_true, h, decide_true, Int.toNat_natCast]
    have := count_loop 8 a 0 (by omega) (by omega) (by omega) (by omega)
    simpa using this
  · have h' : ¬ (0 ≤ (8 : Int) ∧ (8 : Int) ≤ 8 ∧ 0 ≤ s ∧ s < 2 ^ (8 : Int).toNat) := fun hh => h ⟨hh.2.2.1, by simpa using hh.2.2.2⟩
    first
      | (simp only [if_neg h', if_neg h, decide_eq_false h, Bool.false_eq_true, if_false]; exact Ev.now _)
      | (simp only [h, decide_false, Bool.false_eq_true, if_false]; exact Ev.now _)
theorem cntI_nat {s : Nat} (h : s < 256) : cntI (s : Int) = cnt s := by unfold cntI; rw [if_pos (by simp [isAny]; omega)]; rfl
theorem max_s (a b : Int) : spec_l1Max.f a b = some (max a b) := by
  unfold spec_l1Max.f
  by_cases h : a > b
  · rw [if_pos h, show max a b = a by omega]
  · rw [if_neg h, show max a b = b by omega]
theorem rk_fold (B : List Nat) (s : Nat) : ∀ n, n ≤ B.length → ((List.range n).foldl (fun (m : Int) i => max m ((cnt (s &&& B.getD i 0) : Nat) : Int)) 0) = ((rk (B.take n) s : Nat) : Int)
  | 0, _ => by simp [rk]
  | n + 1, h => by
    rw [List.range_succ, List.foldl_append, rk_fold B s n (by omega), List.take_succ_eq_append_getElem (by omega)]
    simp only [List.foldl_cons, List.foldl_nil, rk, List.foldl_append]
    rw [show B.getD n 0 = B[n] by simp [List.getElem?_eq_getElem (show n < B.length by omega)]]
    omega
section
variable {N : Nat} {B : List Nat}
theorem rank_s (hN : N ≤ 8) (hB : ∀ b ∈ B, b < 2 ^ N) (hl : B.length ≤ 17592186044416) {s : Nat} (hs : s < 256) (n : Int) : Ev (fun k => spec_l5Rank.f k n (ints B) s) (rk B s : Int) := by
  unfold spec_l5Rank.f
  have key := loop_fold0 (fun k (m : Int) i => spec_l5Rank.l0 k s m i n (ints B)) B.length (fun m i => max m ((cnt (s &&& B.getD i 0) : Nat) : Int)) (fun _ _ => True) id
    (fun m _ => by simp only [spec_l5Rank.l0, ints_length, show ¬ ((B.length : Int) < (B.length : Int)) by omega, if_false]; exact Ev.now _)
    (fun i m hi _ => ⟨trivial, fun r hr => by
      have hb := getD_lt hB i hi
      have eb := rd_get' i hi
      generalize B.getD i 0 = b at hb eb hr
      have hb8 := lt256 hN hb
      simp only [spec_l5Rank.l0, ints_length, show ((i : Int) < (B.length : Int)) by omega, show (0 : Int) ≤ (i : Int) by omega, if_true, eb, bits_and b s (by omega) (by omega), wrap_succ (show i < 9223372036854775807 by omega)]
      refine Ev.bind (CountOf_s _) ?_
      rw [cntI_nat (Nat.lt_of_le_of_lt Nat.and_le_left hb8), Nat.and_comm b s]
      simp only [max_s, Option.bind_some]
      exact hr⟩) 0 trivial
  have e := rk_fold B s B.length (Nat.le_refl _)
  rw [List.take_length] at e
  rw [e] at key
  exact key
theorem rank_i (hN : N ≤ 8) (hB : ∀ b ∈ B, b < 2 ^ N) (hl : B.length ≤ 17592186044416) {s : Nat} (hs : s < 256) (n : Int) : Ev (fun k => impl_rankIn.f k n (ints B) s) (rk B s : Int) := by
  unfold impl_rankIn.f
  have key := loop_fold0 (fun k (m : Int) i => impl_rankIn.l0 k s m (ints B) ((ints B).length : Int) i) B.length (fun m i => max m ((cnt (s &&& B.getD i 0) : Nat) : Int)) (fun _ _ => True) id
    (fun m _ => by simp only [impl_rankIn.l0, ints_length, show ¬ ((B.length : Int) < (B.length : Int)) by omega, if_false]; exact Ev.now _)
    (fun i m hi _ => ⟨trivial, fun r hr => by
      have hb := getD_lt hB i hi
      have eb := rd_get' i hi
      generalize B.getD i 0 = b at hb eb hr
      have hb8 := lt256 hN hb
      simp only [impl_rankIn.l0, ints_length, show ((i : Int) < (B.length : Int)) by omega, show (0 : Int) ≤ (i : Int) by omega, if_true, eb, bits_and s b (by omega) (by omega), wrap_succ (show i < 9223372036854775807 by omega), CountOf_i, Option.bind_some]
      rw [cntI_nat (Nat.lt_of_le_of_lt Nat.and_le_left hs)]
      rw [show mx m ((cnt (s &&& b) : Nat) : Int) = max m ((cnt (s &&& b) : Nat) : Int) by unfold mx; omega]
      simpa [ints_length] using hr⟩) 0 trivial
  have e := rk_fold B s B.length (Nat.le_refl _)
  rw [List.take_length] at e
  rw [e] at key
  simpa [ints_length] using key
end
theorem FullSet_i {N : Nat} (hN : N ≤ 8) : impl_FullSet.f (N : Int) = some ((full N : Nat) : Int) := by
  unfold impl_FullSet.f full
  have hp : (2 : Nat) ^ N ≤ 2 ^ 8 := Nat.pow_le_pow_right (by decide) hN
  have h0 : 0 < (2 : Nat) ^ N := Nat.two_pow_pos N
  simp only [isSize_i, Option.bind_some, decide_eq_true_eq, show (0 : Int) ≤ (N : Int) ∧ (N : Int) ≤ 8 from ⟨by omega, by omega⟩, and_self, if_true, show (0 : Int) ≤ (N : Int) by omega, shl_one N (by omega)]
  generalize 2 ^ N = x at hp h0
  rw [wrap_in (by omega) (by omega)]; simp; omega
theorem FullSet_s {N : Nat} (hN : N ≤ 8) : spec_FullSet.f (N : Int) = some ((full N : Nat) : Int) := by
  unfold spec_FullSet.f full
  have hp : (2 : Nat) ^ N ≤ 2 ^ 8 := Nat.pow_le_pow_right (by decide) hN
  have h0 : 0 < (2 : Nat) ^ N := Nat.two_pow_pos N
  simp only [l1In, Option.bind_some, decide_eq_true_eq, show (0 : Int) ≤ (N : Int) ∧ (N : Int) ≤ 8 from ⟨by omega, by omega⟩, and_self, if_true]
  rw [wrapu_in (by omega) (by omega), shl_one N (by omega), if_pos (by omega)]
  generalize 2 ^ N = x at hp h0
  rw [wrap_in (by omega) (by omega)]; simp; omega
theorem le_full {N s : Nat} : ((s : Int) ≤ ((full N : Nat) : Int)) ↔ s < 2 ^ N := by
  have h0 : 0 < (2 : Nat) ^ N := Nat.two_pow_pos N
  unfold full
  generalize 2 ^ N = x at h0
  omega
end Go.Proofs.Yteggmbhcnhbamaa.L
