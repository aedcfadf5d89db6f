/-
  Components: of program and reference the same. Condition: lists of at most 2^44 elements.
-/
import Derived.Test.YteggmbhcnhbamaaFx18
import Derived.Test.YteggmbhcnhbamaaFx23
import Derived.Test.YteggmbhcnhbamaaFx26
import Derived.Test.YteggmbhcnhbamaaFx32
import Derived.Test.YteggmbhcnhbamaaFx45
import Derived.Test.YteggmbhcnhbamaaLHead
import Derived.Test.YteggmbhcnhbamaaLKnows
import Derived.Test.YteggmbhcnhbamaaLComp
import Derived.Test.YteggmbhcnhbamaaLRank
import Derived.Test.YteggmbhcnhbamaaLMinimal
import Derived.Test.YteggmbhcnhbamaaLSetsOf
import Derived.Test.YteggmbhcnhbamaaLMatOf
import Derived.Test.YteggmbhcnhbamaaGvComponentsOf
import Derived.Test.YteggmbhcnhbamaaMat4
namespace Go.Proofs.Yteggmbhcnhbamaa.L
open Go.RowKit Go.Proofs.Yteggmbhcnhbamaa.F Go.Proofs.YteggmbhcnhbamaaW.PrintWords Go.Proofs.YteggmbhcnhbamaaW.PrintLast Go.Proofs.YteggmbhcnhbamaaW.PrintMore
open Go.Proofs.Yteggmbhcnhbamaa.Bits
open Go.Proofs.Yteggmbhcnhbamaa.Mt (sdiff cnt cnt_le full full_lt Mat lt256 rk rk_le_cnt sep comp co co_lt)
set_option linter.unusedSimpArgs false
set_option linter.unusedVariables false
/-- Separators that are not empty, below a number, in order. -/
def isSep (N : Nat) (B : List Nat) (s : Nat) : Bool := decide (s ≠ 0) && decide (rk B s + rk B (co N s) = rk B (full N))
def sepN (N : Nat) (B : List Nat) (m : Nat) : List Nat := (List.range m).filter (isSep N B)
theorem sepN_len (N : Nat) (B : List Nat) (m : Nat) : (sepN N B m).length ≤ m := by
  have := List.length_filter_le (isSep N B) (List.range m)
  rwa [List.length_range] at this
theorem sepN_lt {N : Nat} {B : List Nat} {m s : Nat} (h : s ∈ sepN N B m) : s < m := List.mem_range.1 (List.mem_filter.1 h).1
def compN (N : Nat) (B : List Nat) : List Nat := minN (sepN N B (2 ^ N))
theorem mem_compN {N : Nat} {B : List Nat} (hN : N ≤ 8) {s : Nat} : s ∈ compN N B ↔ comp N B s := by
  have h8 : ∀ x ∈ sepN N B (2 ^ N), x < 256 := fun x hx => lt256 hN (sepN_lt hx)
  have hd : ∀ x, x ∈ sepN N B (2 ^ N) ↔ x < 2 ^ N ∧ x ≠ 0 ∧ sep N B x := fun x => by
    unfold sepN isSep sep
    rw [List.mem_filter, List.mem_range, Bool.and_eq_true, decide_eq_true_eq, decide_eq_true_eq]
  unfold compN
  rw [mem_minN h8, hd]
  unfold comp
  constructor
  · rintro ⟨⟨h1, h2, h3⟩, h4⟩
    exact ⟨h1, h2, h3, fun t ht h0 hs hts => h4 t ((hd t).2 ⟨ht, h0, hs⟩) hts⟩
  · rintro ⟨h1, h2, h3, h4⟩
    exact ⟨⟨h1, h2, h3⟩, fun t ht hts => h4 t ((hd t).1 ht).1 ((hd t).1 ht).2.1 ((hd t).1 ht).2.2 hts⟩
section
variable {N : Nat} {B : List Nat}
theorem rk8 (s : Nat) : rk B s ≤ 8 := Nat.le_trans (rk_le_cnt s) (cnt_le s)
theorem conn_s (M : Mat N B) (hl : B.length ≤ 17592186044416) {s : Nat} (hs : s < 2 ^ N) : Ev (fun k => spec_l11Connection.f k N (ints B) (s : Int)) (((rk B s : Nat) : Int) + ((rk B (co N s) : Nat) : Int) - ((rk B (full N) : Nat) : Int)) := by
  have h1 := rk8 (B := B) s
  have h2 := rk8 (B := B) (co N s)
  have h3 := rk8 (B := B) (full N)
  unfold spec_l11Connection.f
  simp only [FullSet_s M.size, Option.bind_some, comp_s M.size hs]
  refine Ev.bind (rank_s M.size M.lt hl (lt256 M.size hs) _) (Ev.bind (rank_s M.size M.lt hl (s := co N s) (lt256 M.size (co_lt N s)) _) (Ev.bind (rank_s M.size M.lt hl (full256 M.size) _) (Ev.some ?_)))
  rw [wrap_in (show (-9223372036854775808 : Int) ≤ ((rk B s : Nat) : Int) + ((rk B (co N s) : Nat) : Int) by omega) (by omega), wrap_in (by omega) (by omega)]
theorem conn_i (M : Mat N B) (hp : B.Pairwise (· < ·)) {s : Nat} (hs : s < 2 ^ N) : Ev (fun k => impl_ConnectionOf.f k N (ints B) (s : Int)) (((rk B s : Nat) : Int) + ((rk B (co N s) : Nat) : Int) - ((rk B (full N) : Nat) : Int)) := by
  have hl := sorted_len (fun b hb => M.lt8 hb) hp
  have h1 := rk8 (B := B) s
  have h2 := rk8 (B := B) (co N s)
  have h3 := rk8 (B := B) (full N)
  unfold impl_ConnectionOf.f
  have hk := knows_i (N : Int) (ints B) (s : Int) (by rw [ints_length]; omega)
  have hset : isSetB (N : Int) (s : Int) = true := by
    have e2 : (2 : Int) ^ N = ((2 ^ N : Nat) : Int) := by simp
    have := M.size
    unfold isSetB; rw [decide_eq_true_eq, Int.toNat_natCast, e2]; omega
  rw [isMatroid_of M hp, hset, Bool.and_self] at hk
  refine Ev.bind hk ?_
  simp only [if_true]
  refine Ev.bind (rank_i M.size M.lt (by omega) (lt256 M.size hs) _) ?_
  simp only [FullSet_i M.size, Option.bind_some, comp_i M.size hs]
  refine Ev.bind (rank_i M.size M.lt (by omega) (s := co N s) (lt256 M.size (co_lt N s)) _) ?_
  obtain ⟨b, hb, h0, e⟩ := head_mem M
  have hc := M.rk_full hb (Mt.sub_refl (full N))
  simp only [ints_length, show (0 : Int) < (B.length : Int) by omega, if_true, e, CountOf_i, Option.bind_some, cntI_nat (M.lt8 hb), ← hc]
  refine Ev.some ?_
  rw [wrap_in (show (-9223372036854775808 : Int) ≤ ((rk B s : Nat) : Int) + ((rk B (co N s) : Nat) : Int) by omega) (by omega), wrap_in (by omega) (by omega)]
theorem comps_s (M : Mat N B) (hl : B.length ≤ 17592186044416) : Ev (fun k => spec_ComponentsOf.l0 k [] 1 N (ints B)) (ints (compN N B)) := by
  have hp : (2 : Nat) ^ N ≤ 2 ^ 8 := Nat.pow_le_pow_right (by decide) M.size
  have h0 : 0 < (2 : Nat) ^ N := Nat.two_pow_pos N
  have key := loop_reach (fun k acc i => spec_ComponentsOf.l0 k acc (i + 1) N (ints B)) (2 ^ N - 1) (fun acc i => if isSep N B (i + 1) = true then acc ++ [((i + 1 : Nat) : Int)] else acc) (fun i acc => acc = ints (sepN N B (i + 1)))
    (fun i acc hi ha => ⟨by
      rw [ha]; unfold sepN
      rw [List.range_succ (n := i + 1), List.filter_append]
      cases h : isSep N B (i + 1) <;> simp [ints, h], fun r hr => by
      have hlen : acc.length < 17592186044416 := by have := sepN_len N B (i + 1); rw [ha, ints_length]; omega
      have hs : i + 1 < 2 ^ N := by omega
      have hc := conn_s M hl hs
      have e1 : ((i : Int) + 1) = ((i + 1 : Nat) : Int) := by omega
      have e2 : (((i + 1 : Nat) : Int) + 1) = ((i + 1 + 1 : Nat) : Int) := by omega
      simp only [e1, spec_ComponentsOf.l0, FullSet_s M.size, Option.bind_some, le_full.2 hs, if_true, wrap_succ (show i + 1 < 9223372036854775807 by omega)]
      refine Ev.bind hc ?_
      have e3 : isSep N B (i + 1) = decide (rk B (i + 1) + rk B (co N (i + 1)) = rk B (full N)) := by unfold isSep; simp
      rw [e3] at hr
      by_cases h : rk B (i + 1) + rk B (co N (i + 1)) = rk B (full N)
      · simp only [h, decide_true, if_true, e2] at hr
        simp only [show (((rk B (i + 1) : Nat) : Int) + ((rk B (co N (i + 1)) : Nat) : Int) - ((rk B (full N) : Nat) : Int) = 0) by omega, if_true, hlen]; exact hr
      · simp only [h, decide_false, Bool.false_eq_true, if_false, e2] at hr
        simp only [show ¬ (((rk B (i + 1) : Nat) : Int) + ((rk B (co N (i + 1)) : Nat) : Int) - ((rk B (full N) : Nat) : Int) = 0) by omega, if_false]; exact hr⟩) [] (by simp [sepN, isSep, ints])
  have h := key.2 (ints (compN N B)) (Ev.succ (by
    rw [key.1]
    have e : (((2 ^ N - 1 : Nat) : Int) + 1) = ((2 ^ N : Nat) : Int) := by omega
    rw [e, show 2 ^ N - 1 + 1 = 2 ^ N by omega]
    simp only [spec_ComponentsOf.l0, FullSet_s M.size, Option.bind_some, if_neg (fun h => Nat.lt_irrefl _ (le_full.1 h))]
    exact Ev.bind (MinimalSets_s (fun x hx => lt256 M.size (sepN_lt hx)) (by have := sepN_len N B (2 ^ N); omega)) (Ev.now _)))
  simpa using h
theorem comps_i (M : Mat N B) (hp : B.Pairwise (· < ·)) : Ev (fun k => (setsO (impl_ComponentsOf.q k N (ints B)) k N [] 0).bind fun L => impl_MinimalSets.f k L) (ints (compN N B)) := by
  have h1 := setsO_ev (fun k => impl_ComponentsOf.q k N (ints B)) (isSep N B) M.size fun s hs => by
    unfold impl_ComponentsOf.q isSep
    by_cases h0 : s = 0
    · subst h0; simp only [show (((0 : Nat) : Int) = 0) from rfl, if_true]; exact Ev.some (by simp)
    · simp only [show ¬ ((s : Int) = 0) by omega, if_false]
      refine Ev.bind (conn_i M hp hs) (Ev.some ?_)
      rw [Bool.eq_iff_iff, beq_iff_eq, Bool.and_eq_true, decide_eq_true_eq, decide_eq_true_eq]
      omega
  have hp2 : (2 : Nat) ^ N ≤ 2 ^ 8 := Nat.pow_le_pow_right (by decide) M.size
  exact Ev.bind h1 (MinimalSets_i (fun x hx => lt256 M.size (sepN_lt hx)) (by have := sepN_len N B (2 ^ N); unfold sepN at this; omega))
end
def compI (n : Int) (l : List Int) : List Int := if isMatroid n l = true then ints (compN n.toNat (l.map Int.toNat)) else []
theorem compI_length (n : Int) (l : List Int) : (compI n l).length ≤ 17592186044416 := by
  unfold compI
  split
  · have := minN_len (sepN n.toNat (l.map Int.toNat) (2 ^ n.toNat))
    rw [ints_length]; unfold compN; omega
  · simp
theorem ComponentsOf_i (n : Int) (l : List Int) (hl : l.length ≤ 17592186044416) : Ev (fun k => impl_ComponentsOf.f k n l) (compI n l) := by
  unfold impl_ComponentsOf.f compI
  refine Ev.bind (IsMatroid_i n l hl) ?_
  cases h : isMatroid n l
  · simp only [Bool.false_eq_true, if_false]; exact Ev.now _
  obtain ⟨N, B, rfl, rfl, hp, M⟩ := mat_parts h
  simp only [if_true, toNat_ints, Int.toNat_natCast]
  exact comps_i M hp
theorem ComponentsOf_s (n : Int) (l : List Int) (hl : l.length ≤ 17592186044416) : Ev (fun k => spec_ComponentsOf.f k n l) (compI n l) := by
  unfold spec_ComponentsOf.f compI
  simp only [Option.bind_some]
  refine Ev.bind (IsMatroid_s n l hl) ?_
  cases h : isMatroid n l
  · simp only [Bool.false_eq_true, if_false]; exact Ev.now _
  obtain ⟨N, B, rfl, rfl, hp, M⟩ := mat_parts h
  rw [ints_length] at hl
  simp only [if_true, toNat_ints, Int.toNat_natCast]
  exact comps_s M hl
def connectedI (n : Int) (l : List Int) : Bool := isMatroid n l && decide (((compI n l).length : Int) ≤ 1)
theorem IsConnected_s (n : Int) (l : List Int) (hl : l.length ≤ 17592186044416) : Ev (fun k => spec_IsConnected.f k n l) (connectedI n l) := by
  unfold spec_IsConnected.f connectedI
  refine Ev.bind (IsMatroid_s n l hl) ?_
  cases h : isMatroid n l
  · simp only [Bool.false_eq_true, if_false, Bool.false_and]; exact Ev.now _
  simp only [if_true, Bool.true_and]
  exact Ev.bind (ComponentsOf_s n l hl) (Ev.now _)
theorem IsConnected_i (n : Int) (l : List Int) (hl : l.length ≤ 17592186044416) : Ev (fun k => impl_IsConnected.f k n l) (connectedI n l) := by
  unfold impl_IsConnected.f connectedI
  refine Ev.bind (IsMatroid_i n l hl) ?_
  cases h : isMatroid n l
  · simp only [Bool.false_eq_true, if_false, Bool.false_and]; exact Ev.now _
  simp only [if_true, Bool.true_and]
  exact Ev.bind (ComponentsOf_i n l hl) (Ev.now _)
end Go.Proofs.Yteggmbhcnhbamaa.L
