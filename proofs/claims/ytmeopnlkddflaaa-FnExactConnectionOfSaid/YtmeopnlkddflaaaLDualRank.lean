/-
  Ranks of sets, of their complements, and how sets are connected: of program and reference the same. Condition: lists of at most 2^44 elements.
-/
import Derived.Test.YtmeopnlkddflaaaFx23
import Derived.Test.YtmeopnlkddflaaaFx29
import Derived.Test.YtmeopnlkddflaaaFx24
import Derived.Test.YtmeopnlkddflaaaFx30
import Derived.Test.YtmeopnlkddflaaaFx14
import Derived.Test.YtmeopnlkddflaaaFx11
import Derived.Test.YtmeopnlkddflaaaFx19
import Derived.Test.YtmeopnlkddflaaaLRank
namespace Go.Proofs.Ytmeopnlkddflaaa.L
open Go.RowKit Go.Proofs.Ytmeopnlkddflaaa.F Go.Proofs.YtmeopnlkddflaaaW.PrintWords Go.Proofs.YtmeopnlkddflaaaW.PrintLast Go.Proofs.YtmeopnlkddflaaaW.PrintMore
open Go.Proofs.Ytmeopnlkddflaaa.Bits
open Go.Proofs.Ytmeopnlkddflaaa.Mt (sdiff bit_sdiff elems mem_elems cnt cnt_le full ins del Mat lt256 rk)
set_option linter.unusedSimpArgs false
set_option linter.unusedVariables false
theorem full_minus : ∀ N : Nat, N ≤ 8 → ∀ s : Nat, s < 256 → s < 2 ^ N → sdiff (full N) s + s = full N := by decide +kernel
theorem full256 {N : Nat} (hN : N ≤ 8) : full N < 256 := lt256 hN (Mt.full_lt N)
/-- The rank of all is what a base has. -/
theorem rk_all {N : Nat} {B : List Nat} (M : Mat N B) {b : Nat} (hb : b ∈ B) : rk B (full N) = cnt b := M.rk_full hb (Mt.sub_refl _)
/-- What RankOf of the reference says: the rank, or -1. -/
def rankI (n : Int) (l : List Int) (s : Int) : Int := if isMatroid n l && isSetB n s then (rk (l.map Int.toNat) s.toNat : Int) else -1
theorem set_nat {N : Nat} {s : Int} (h : isSetB (N : Int) s = true) : ∃ S : Nat, s = S ∧ S < 2 ^ N := by
  simp only [isSetB, decide_eq_true_eq, Int.toNat_natCast] at h
  obtain ⟨S, rfl⟩ := Int.eq_ofNat_of_zero_le h.2.2.1
  refine ⟨S, rfl, ?_⟩
  have e : (2 : Int) ^ N = ((2 ^ N : Nat) : Int) := by simp
  rw [e] at h; omega
theorem RankOf_s (n : Int) (l : List Int) (s : Int) (hl : l.length ≤ 17592186044416) : Ev (fun k => spec_RankOf.f k n l s) (rankI n l s) := by
  unfold spec_RankOf.f rankI
  refine Ev.bind (IsMatroid_s n l hl) ?_
  cases h : isMatroid n l
  · simp only [Bool.false_eq_true, if_false, Bool.false_and]; exact Ev.now _
  obtain ⟨N, B, rfl, rfl, hp, M⟩ := mat_parts h
  rw [ints_length] at hl
  simp only [if_true, IsSet_s, Option.bind_some, Bool.true_and]
  rw [show decide (0 ≤ (N : Int) ∧ (N : Int) ≤ 8 ∧ 0 ≤ s ∧ s < 2 ^ ((N : Int)).toNat) = isSetB (N : Int) s from rfl]
  cases hs : isSetB (N : Int) s
  · simp only [Bool.false_eq_true, if_false]; exact Ev.now _
  obtain ⟨S, rfl, hS⟩ := set_nat hs
  simp only [if_true, toNat_ints, Int.toNat_natCast]
  exact Ev.bind (rank_s M.size M.lt hl (lt256 M.size hS) _) (Ev.now _)
theorem knows_i (n : Int) (l : List Int) (s : Int) (hl : l.length ≤ 17592186044416) : Ev (fun k => impl_knows.f k n l s) (isMatroid n l && isSetB n s) := by
  unfold impl_knows.f
  refine Ev.bind (IsMatroid_i n l hl) ?_
  cases h : isMatroid n l
  · simp only [Bool.false_eq_true, if_false, Bool.false_and]; exact Ev.now _
  simp only [if_true, IsSet_i, Option.bind_some, Bool.true_and]
  exact Ev.now _
theorem comp_s {N S : Nat} (hN : N ≤ 8) (hS : S < 2 ^ N) : wrap64 (((full N : Nat) : Int) - (S : Int)) = ((sdiff (full N) S : Nat) : Int) := by
  have := full_minus N hN S (lt256 hN hS) hS
  have := full256 hN
  rw [wrap_in (by omega) (by omega)]; omega
theorem comp_i {N S : Nat} (hN : N ≤ 8) (hS : S < 2 ^ N) : Go.bits .andNot .i64 ((full N : Nat) : Int) (S : Int) = ((sdiff (full N) S : Nat) : Int) := by
  have := full256 hN
  have := lt256 hN hS
  exact bits_andNot _ _ (by omega) (by omega)
theorem head_mem {N : Nat} {B : List Nat} (M : Mat N B) : ∃ b, b ∈ B ∧ 0 < B.length ∧ rd (ints B) 0 = (b : Int) := by
  have hne := M.ne
  cases B with
  | nil => exact absurd rfl hne
  | cons b t => exact ⟨b, List.mem_cons_self .., by simp, by simp [ints, rd]⟩
def dualRankI (n : Int) (l : List Int) (s : Int) : Int :=
  if isMatroid n l && isSetB n s then (cnt s.toNat : Int) + (rk (l.map Int.toNat) (sdiff (full n.toNat) s.toNat) : Int) - (rk (l.map Int.toNat) (full n.toNat) : Int) else -1
theorem DualRank_s (n : Int) (l : List Int) (s : Int) (hl : l.length ≤ 17592186044416) : Ev (fun k => spec_DualRank.f k n l s) (dualRankI n l s) := by
  unfold spec_DualRank.f dualRankI
  refine Ev.bind (RankOf_s n l s hl) ?_
  unfold rankI
  cases h : isMatroid n l && isSetB n s
  · simp only [Bool.false_eq_true, if_false]; exact Ev.now _
  rw [Bool.and_eq_true] at h
  obtain ⟨N, B, rfl, rfl, hp, M⟩ := mat_parts h.1
  obtain ⟨S, rfl, hS⟩ := set_nat h.2
  rw [ints_length] at hl
  have hN := M.size
  have hS8 := lt256 hN hS
  simp only [if_true, toNat_ints, Int.toNat_natCast, show ¬ ((rk B S : Int) < 0) by omega, if_false]
  refine Ev.bind (CountOf_s _) ?_
  simp only [FullSet_s hN, Option.bind_some, comp_s hN hS, cntI_nat hS8]
  refine Ev.bind (rank_s hN M.lt hl (sdiff256 (full256 hN)) _) (Ev.bind (rank_s hN M.lt hl (full256 hN) _) ?_)
  have h1 := Mt.rk_le_cnt (B := B) (sdiff (full N) S)
  have h2 := Mt.rk_le_cnt (B := B) (full N)
  have h3 := cnt_le (sdiff (full N) S)
  have h4 := cnt_le (full N)
  have h5 := cnt_le S
  refine Ev.some ?_
  rw [wrap_in (n := (cnt S : Int) + (rk B (sdiff (full N) S) : Int)) (by omega) (by omega), wrap_in (by omega) (by omega)]
theorem DualRank_i (n : Int) (l : List Int) (s : Int) (hl : l.length ≤ 17592186044416) : Ev (fun k => impl_DualRank.f k n l s) (dualRankI n l s) := by
  unfold impl_DualRank.f dualRankI
  refine Ev.bind (knows_i n l s hl) ?_
  cases h : isMatroid n l && isSetB n s
  · simp only [Bool.false_eq_true, if_false]; exact Ev.now _
  rw [Bool.and_eq_true] at h
  obtain ⟨N, B, rfl, rfl, hp, M⟩ := mat_parts h.1
  obtain ⟨S, rfl, hS⟩ := set_nat h.2
  rw [ints_length] at hl
  have hN := M.size
  have hS8 := lt256 hN hS
  obtain ⟨b, hb, h0, hrd⟩ := head_mem M
  simp only [if_true, toNat_ints, Int.toNat_natCast, CountOf_i, FullSet_i hN, Option.bind_some, comp_i hN hS, cntI_nat hS8, ints_length, show (0 : Int) < (B.length : Int) by omega, hrd, cntI_nat (M.lt8 hb)]
  refine Ev.bind (rank_i hN M.lt hl (sdiff256 (full256 hN)) _) ?_
  have h1 := Mt.rk_le_cnt (B := B) (sdiff (full N) S)
  have h3 := cnt_le (sdiff (full N) S)
  have h5 := cnt_le S
  have h6 := cnt_le b
  refine Ev.some ?_
  rw [wrap_in (n := (cnt S : Int) + (rk B (sdiff (full N) S) : Int)) (by omega) (by omega), wrap_in (by omega) (by omega), rk_all M hb]
def connI (n : Int) (l : List Int) (s : Int) : Int :=
  if isMatroid n l && isSetB n s then (rk (l.map Int.toNat) s.toNat : Int) + (rk (l.map Int.toNat) (sdiff (full n.toNat) s.toNat) : Int) - (rk (l.map Int.toNat) (full n.toNat) : Int) else -1
theorem ConnectionOf_s (n : Int) (l : List Int) (s : Int) (hl : l.length ≤ 17592186044416) : Ev (fun k => spec_ConnectionOf.f k n l s) (connI n l s) := by
  unfold spec_ConnectionOf.f connI
  refine Ev.bind (RankOf_s n l s hl) ?_
  unfold rankI
  cases h : isMatroid n l && isSetB n s
  · simp only [Bool.false_eq_true, if_false]; exact Ev.now _
  rw [Bool.and_eq_true] at h
  obtain ⟨N, B, rfl, rfl, hp, M⟩ := mat_parts h.1
  obtain ⟨S, rfl, hS⟩ := set_nat h.2
  rw [ints_length] at hl
  have hN := M.size
  have hS8 := lt256 hN hS
  simp only [if_true, toNat_ints, Int.toNat_natCast, show ¬ ((rk B S : Int) < 0) by omega, if_false, spec_l11Connection.f, FullSet_s hN, Option.bind_some, comp_s hN hS]
  refine Ev.bind (Ev.bind (rank_s hN M.lt hl hS8 _) (Ev.bind (rank_s hN M.lt hl (sdiff256 (full256 hN)) _) (Ev.bind (rank_s hN M.lt hl (full256 hN) _) (Ev.now _)))) ?_
  have h1 := Mt.rk_le_cnt (B := B) (sdiff (full N) S)
  have h2 := Mt.rk_le_cnt (B := B) (full N)
  have h3 := cnt_le (sdiff (full N) S)
  have h4 := cnt_le (full N)
  have h5 := cnt_le S
  have h6 := Mt.rk_le_cnt (B := B) S
  refine Ev.some ?_
  rw [wrap_in (n := (rk B S : Int) + (rk B (sdiff (full N) S) : Int)) (by omega) (by omega), wrap_in (by omega) (by omega)]
theorem ConnectionOf_i (n : Int) (l : List Int) (s : Int) (hl : l.length ≤ 17592186044416) : Ev (fun k => impl_ConnectionOf.f k n l s) (connI n l s) := by
  unfold impl_ConnectionOf.f connI
  refine Ev.bind (knows_i n l s hl) ?_
  cases h : isMatroid n l && isSetB n s
  · simp only [Bool.false_eq_true, if_false]; exact Ev.now _
  rw [Bool.and_eq_true] at h
  obtain ⟨N, B, rfl, rfl, hp, M⟩ := mat_parts h.1
  obtain ⟨S, rfl, hS⟩ := set_nat h.2
  rw [ints_length] at hl
  have hN := M.size
  have hS8 := lt256 hN hS
  obtain ⟨b, hb, h0, hrd⟩ := head_mem M
  simp only [if_true, toNat_ints, Int.toNat_natCast, CountOf_i, FullSet_i hN, Option.bind_some, comp_i hN hS, ints_length, show (0 : Int) < (B.length : Int) by omega, hrd, cntI_nat (M.lt8 hb)]
  refine Ev.bind (rank_i hN M.lt hl hS8 _) (Ev.bind (rank_i hN M.lt hl (sdiff256 (full256 hN)) _) ?_)
  have h1 := Mt.rk_le_cnt (B := B) (sdiff (full N) S)
  have h3 := cnt_le (sdiff (full N) S)
  have h5 := cnt_le S
  have h6 := cnt_le b
  have h7 := Mt.rk_le_cnt (B := B) S
  refine Ev.some ?_
  rw [wrap_in (n := (rk B S : Int) + (rk B (sdiff (full N) S) : Int)) (by omega) (by omega), wrap_in (by omega) (by omega), rk_all M hb]
end Go.Proofs.Ytmeopnlkddflaaa.L
