/-
  The ranks of all sets in order: of program and reference the same. Condition: lists of at most 2^44 elements.
-/
import Derived.Test.YtmeopnlkddflaaaFx15
import Derived.Test.YtmeopnlkddflaaaFx17
import Derived.Test.YtmeopnlkddflaaaLRank
namespace Go.Proofs.Ytmeopnlkddflaaa.L
open Go.RowKit Go.Proofs.Ytmeopnlkddflaaa.F Go.Proofs.YtmeopnlkddflaaaW.PrintWords Go.Proofs.YtmeopnlkddflaaaW.PrintLast Go.Proofs.YtmeopnlkddflaaaW.PrintMore
open Go.Proofs.Ytmeopnlkddflaaa.Bits
open Go.Proofs.Ytmeopnlkddflaaa.Mt (sdiff bit_sdiff elems mem_elems cnt cnt_le full ins del Mat lt256 rk)
set_option linter.unusedSimpArgs false
set_option linter.unusedVariables false
def tableN (N : Nat) (B : List Nat) (n : Nat) : List Int := (List.range n).map fun s => ((rk B s : Nat) : Int)
def tableI (n : Int) (l : List Int) : List Int := if isMatroid n l = true then tableN n.toNat (l.map Int.toNat) (2 ^ n.toNat) else []
theorem tableI_length (n : Int) (l : List Int) : (tableI n l).length ≤ 17592186044416 := by
  unfold tableI
  split
  · rename_i h
    obtain ⟨N, B, rfl, rfl, hp, M⟩ := mat_parts h
    have hp : (2 : Nat) ^ N ≤ 2 ^ 8 := Nat.pow_le_pow_right (by decide) M.size
    simp only [tableN, List.length_map, List.length_range, Int.toNat_natCast]; omega
  · simp
theorem le_full {N s : Nat} : ((s : Int) ≤ ((full N : Nat) : Int)) ↔ s < 2 ^ N := by
  have h0 : 0 < (2 : Nat) ^ N := Nat.two_pow_pos N
  unfold full
  generalize 2 ^ N = x at h0
  omega
section
variable {N : Nat} {B : List Nat}
theorem table_s (M : Mat N B) (hl : B.length ≤ 17592186044416) : Ev (fun k => spec_RankTable.l0 k [] 0 N (ints B)) (tableN N B (2 ^ N)) := by
  have hp : (2 : Nat) ^ N ≤ 2 ^ 8 := Nat.pow_le_pow_right (by decide) M.size
  have key := loop_reach (fun k acc s => spec_RankTable.l0 k acc s N (ints B)) (2 ^ N) (fun acc s => acc ++ [((rk B s : Nat) : Int)]) (fun s acc => acc = tableN N B s)
    (fun s acc hs ha => ⟨by rw [ha]; simp [tableN, List.range_succ], fun r hr => by
      have hlen : acc.length < 17592186044416 := by rw [ha]; simp only [tableN, List.length_map, List.length_range]; omega
      simp only [spec_RankTable.l0, FullSet_s M.size, Option.bind_some, le_full.2 hs, if_true]
      refine Ev.bind (rank_s M.size M.lt hl (by omega) _) ?_
      simp only [hlen, if_true, wrap_succ (show s < 9223372036854775807 by omega)]
      exact hr⟩) [] (by simp [tableN])
  refine key.2 _ (Ev.succ ?_)
  rw [key.1]
  simp only [spec_RankTable.l0, FullSet_s M.size, Option.bind_some, if_neg (fun h => Nat.lt_irrefl _ (le_full.1 h))]
  exact Ev.now _
theorem table_i (M : Mat N B) (hl : B.length ≤ 17592186044416) : Ev (fun k => impl_RankTable.l0 k [] 0 N (ints B)) (tableN N B (2 ^ N)) := by
  have hp : (2 : Nat) ^ N ≤ 2 ^ 8 := Nat.pow_le_pow_right (by decide) M.size
  have key := loop_reach (fun k acc s => impl_RankTable.l0 k acc s N (ints B)) (2 ^ N) (fun acc s => acc ++ [((rk B s : Nat) : Int)]) (fun s acc => acc = tableN N B s)
    (fun s acc hs ha => ⟨by rw [ha]; simp [tableN, List.range_succ], fun r hr => by
      have hlen : acc.length < 17592186044416 := by rw [ha]; simp only [tableN, List.length_map, List.length_range]; omega
      simp only [impl_RankTable.l0, FullSet_i M.size, Option.bind_some, le_full.2 hs, if_true]
      refine Ev.bind (rank_i M.size M.lt hl (by omega) _) ?_
      simp only [hlen, if_true, wrap_succ (show s < 9223372036854775807 by omega)]
      exact hr⟩) [] (by simp [tableN])
  refine key.2 _ (Ev.succ ?_)
  rw [key.1]
  simp only [impl_RankTable.l0, FullSet_i M.size, Option.bind_some, if_neg (fun h => Nat.lt_irrefl _ (le_full.1 h))]
  exact Ev.now _
end
theorem RankTable_s (n : Int) (l : List Int) (hl : l.length ≤ 17592186044416) : Ev (fun k => spec_RankTable.f k n l) (tableI n l) := by
  unfold spec_RankTable.f tableI
  simp only [Option.bind_some]
  refine Ev.bind (IsMatroid_s n l hl) ?_
  cases h : isMatroid n l
  · simp only [Bool.false_eq_true, if_false]; exact Ev.now _
  obtain ⟨N, B, rfl, rfl, hp, M⟩ := mat_parts h
  rw [ints_length] at hl
  simp only [if_true, toNat_ints, Int.toNat_natCast]
  exact table_s M hl
theorem RankTable_i (n : Int) (l : List Int) (hl : l.length ≤ 17592186044416) : Ev (fun k => impl_RankTable.f k n l) (tableI n l) := by
  unfold impl_RankTable.f tableI
  refine Ev.bind (IsMatroid_i n l hl) ?_
  cases h : isMatroid n l
  · simp only [Bool.false_eq_true, if_false]; exact Ev.now _
  obtain ⟨N, B, rfl, rfl, hp, M⟩ := mat_parts h
  rw [ints_length] at hl
  simp only [if_true, toNat_ints, Int.toNat_natCast]
  exact table_i M hl
end Go.Proofs.Ytmeopnlkddflaaa.L
