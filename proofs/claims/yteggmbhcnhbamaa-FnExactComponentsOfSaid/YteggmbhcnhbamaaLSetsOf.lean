/-
  impl.setsOf over a function value that answers of all sets as a plain predicate: the sets of which it holds. No condition but that.
-/
import Derived.Test.YteggmbhcnhbamaaLRank
import Derived.Test.YteggmbhcnhbamaaGvSetsOf
namespace Go.Proofs.Yteggmbhcnhbamaa.L
open Go.RowKit Go.Proofs.Yteggmbhcnhbamaa.F Go.Proofs.YteggmbhcnhbamaaW.PrintWords Go.Proofs.YteggmbhcnhbamaaW.PrintLast Go.Proofs.YteggmbhcnhbamaaW.PrintMore
open Go.Proofs.Yteggmbhcnhbamaa.Bits
open Go.Proofs.Yteggmbhcnhbamaa.Mt (full)
set_option linter.unusedSimpArgs false
set_option linter.unusedVariables false
/-- setsOf over a predicate that says p of all sets of N elements. -/
theorem setsO_run (q : Int → Option Bool) (p : Nat → Bool) {N : Nat} (hN : N ≤ 8) (hq : ∀ s : Nat, s < 2 ^ N → q (s : Int) = some (p s)) :
    ∀ (d j fuel : Nat) (out : List Int), j + d = 2 ^ N → d < fuel → out.length ≤ j → setsO q fuel (N : Int) out (j : Int) = some (out ++ ints ((List.range' j d).filter p))
  | 0, j, fuel + 1, out, hd, _, ho => by
    have hn : ¬ ((j : Int) ≤ ((full N : Nat) : Int)) := fun h => by have := le_full.1 h; omega
    simp only [setsO, FullSet_i hN, Option.bind_some, if_neg hn]
    simp [ints]
  | d + 1, j, fuel + 1, out, hd, hf, ho => by
    have hp : (2 : Nat) ^ N ≤ 2 ^ 8 := Nat.pow_le_pow_right (by decide) hN
    have hj : j < 2 ^ N := by omega
    simp only [setsO, FullSet_i hN, Option.bind_some, le_full.2 hj, if_true, hq j hj, wrap_succ (show j < 9223372036854775807 by omega)]
    rw [List.range'_succ, List.filter_cons]
    cases h : p j
    · simp only [Bool.false_eq_true, if_false]
      exact setsO_run q p hN hq d (j + 1) fuel out (by omega) (by omega) (by omega)
    · simp only [if_true, show out.length < 17592186044416 by omega]
      rw [setsO_run q p hN hq d (j + 1) fuel (out ++ [(j : Int)]) (by omega) (by omega) (by simp; omega)]
      simp [ints]
theorem Ev_all (Q : Nat → Int → Option Bool) (p : Nat → Bool) : ∀ m : Nat, (∀ s : Nat, s < m → Ev (fun k => Q k (s : Int)) (p s)) → ∃ K, ∀ k, K ≤ k → ∀ s : Nat, s < m → Q k (s : Int) = some (p s)
  | 0, _ => ⟨0, fun _ _ s hs => absurd hs (Nat.not_lt_zero s)⟩
  | m + 1, h => by
    obtain ⟨K, hK⟩ := Ev_all Q p m fun s hs => h s (by omega)
    obtain ⟨K', hK'⟩ := h m (by omega)
    refine ⟨max K K', fun k hk s hs => ?_⟩
    by_cases e : s = m
    · subst e; exact hK' k (by omega)
    · exact hK k (by omega) s (by omega)
theorem setsO_ev (Q : Nat → Int → Option Bool) (p : Nat → Bool) {N : Nat} (hN : N ≤ 8) (h : ∀ s : Nat, s < 2 ^ N → Ev (fun k => Q k (s : Int)) (p s)) : Ev (fun k => setsO (Q k) k (N : Int) [] 0) (ints ((List.range (2 ^ N)).filter p)) := by
  obtain ⟨K, hK⟩ := Ev_all Q p (2 ^ N) h
  refine ⟨max K (2 ^ N + 1), fun k hk => ?_⟩
  have := setsO_run (Q k) p hN (hK k (by omega)) (2 ^ N) 0 k [] (by omega) (by omega) (by simp)
  rw [List.range_eq_range']
  simpa using this
end Go.Proofs.Yteggmbhcnhbamaa.L
