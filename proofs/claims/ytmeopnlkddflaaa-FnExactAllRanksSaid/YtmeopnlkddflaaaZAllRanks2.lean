/- Several texts of this session in one: LSetsOf, LIndep, LAllRanks, LLists, LMark, LCase, PuFnExactAllRanks, LawFnExactAllRanks. Conditions: as each theorem says. -/
import Derived.Test.YtmeopnlkddflaaaZAllRanks1
import Derived.Test.YtmeopnlkddflaaaZAllRanks0
import Derived.Test.YtmeopnlkddflaaaFx1
import Derived.Test.YtmeopnlkddflaaaRows
import Derived.WalkKit
import Derived.ProofKit
import Derived.OpenShut
import Derived.ShutString
import Derived.ChangeOld
import Derived.Below
import Derived.SizedLaws
import Derived.Lib.SmallJoins
section
namespace Go.Proofs.Ytmeopnlkddflaaa.L
open Go.RowKit Go.Proofs.Ytmeopnlkddflaaa.F Go.Proofs.YtmeopnlkddflaaaW.PrintWords Go.Proofs.YtmeopnlkddflaaaW.PrintLast Go.Proofs.YtmeopnlkddflaaaW.PrintMore
open Go.Proofs.Ytmeopnlkddflaaa.Bits
open Go.Proofs.Ytmeopnlkddflaaa.Mt (full)
set_option linter.unusedSimpArgs false
set_option linter.unusedVariables false
/-- setsOf over a predicate that says p of all sets of N elements. -/
theorem setsO_run (q : Int → Option Bool) (p : Nat → Bool) {N : Nat} (hN : N ≤ 8) (hq : ∀ s : Nat, s < 2 ^ N → q (s : Int) = some (p s)) :
    ∀ (d j fuel : Nat) (out : List Int), j + d = 2 ^ N → d < fuel → out.length ≤ j → setsO q fuel (N : Int) out (j : Int) = some (out ++ ints ((List.range' j d).filter p))
  | 0, j, fuel + 1, out, hd, _, ho => by
    have hn : ¬ ((j : Int) ≤ ((full N : Nat) : Int)) := fun h => by have := le_full.1 h; omega
    simp only [setsO, FullSet_i hN, Option.bind_some, if_neg hn]
    simp [ints]
  | d + 1, j, fuel + 1, out, hd, hf, ho => by
    have hp : (2 : Nat) ^ N ≤ 2 ^ 8 := Nat.pow_le_pow_right (by decide) hN
    have hj : j < 2 ^ N := by omega
    simp only [setsO, FullSet_i hN, Option.bind_some, le_full.2 hj, if_true, hq j hj, wrap_succ (show j < 9223372036854775807 by omega)]
    rw [List.range'_succ, List.filter_cons]
    cases h : p j
    · simp only [Bool.false_eq_true, if_false]
      exact setsO_run q p hN hq d (j + 1) fuel out (by omega) (by omega) (by omega)
    · simp only [if_true, show out.length < 17592186044416 by omega]
      rw [setsO_run q p hN hq d (j + 1) fuel (out ++ [(j : Int)]) (by omega) (by omega) (by simp; omega)]
      simp [ints]
theorem Ev_all (Q : Nat → Int → Option Bool) (p : Nat → Bool) : ∀ m : Nat, (∀ s : Nat, s < m → Ev (fun k => Q k (s : Int)) (p s)) → ∃ K, ∀ k, K ≤ k → ∀ s : Nat, s < m → Q k (s : Int) = some (p s)
  | 0, _ => ⟨0, fun _ _ s hs => absurd hs (Nat.not_lt_zero s)⟩
  | m + 1, h => by
    obtain ⟨K, hK⟩ := Ev_all Q p m fun s hs => h s (by omega)
    obtain ⟨K', hK'⟩ := h m (by omega)
    refine ⟨max K K', fun k hk s hs => ?_⟩
    by_cases e : s = m
    · subst e; exact hK' k (by omega)
    · exact hK k (by omega) s (by omega)
theorem setsO_ev (Q : Nat → Int → Option Bool) (p : Nat → Bool) {N : Nat} (hN : N ≤ 8) (h : ∀ s : Nat, s < 2 ^ N → Ev (fun k => Q k (s : Int)) (p s)) : Ev (fun k => setsO (Q k) k (N : Int) [] 0) (ints ((List.range (2 ^ N)).filter p)) := by
  obtain ⟨K, hK⟩ := Ev_all Q p (2 ^ N) h
  refine ⟨max K (2 ^ N + 1), fun k hk => ?_⟩
  have := setsO_run (Q k) p hN (hK k (by omega)) (2 ^ N) 0 k [] (by omega) (by omega) (by simp)
  rw [List.range_eq_range']
  simpa using this
end Go.Proofs.Ytmeopnlkddflaaa.L
end
section
namespace Go.Proofs.Ytmeopnlkddflaaa.L
open Go.RowKit Go.Proofs.Ytmeopnlkddflaaa.F Go.Proofs.YtmeopnlkddflaaaW.PrintWords Go.Proofs.YtmeopnlkddflaaaW.PrintLast Go.Proofs.YtmeopnlkddflaaaW.PrintMore
open Go.Proofs.Ytmeopnlkddflaaa.Bits
open Go.Proofs.Ytmeopnlkddflaaa.Mt (sdiff cnt full Mat lt256 rk ind ind_iff sub_iff_and)
set_option linter.unusedSimpArgs false
set_option linter.unusedVariables false
def isInd (B : List Nat) (s : Nat) : Bool := decide (rk B s = cnt s)
theorem isInd_iff {N : Nat} {B : List Nat} (M : Mat N B) {s : Nat} (hs : s < 256) : isInd B s = true ↔ ind B s := by
  unfold isInd; rw [decide_eq_true_eq, ← ind_iff M.ne hs]
/-- The independent sets below a number, in order. -/
def indN (B : List Nat) (m : Nat) : List Nat := (List.range m).filter (isInd B)
theorem indN_len (B : List Nat) (m : Nat) : (indN B m).length ≤ m := by
  have := List.length_filter_le (isInd B) (List.range m)
  rwa [List.length_range] at this
theorem indN_lt {B : List Nat} {m s : Nat} (h : s ∈ indN B m) : s < m := List.mem_range.1 (List.mem_filter.1 h).1
section
variable {N : Nat} {B : List Nat}
theorem independent_i (M : Mat N B) (hl : B.length ≤ 17592186044416) {s : Nat} (hs : s < 256) (n : Int) : Ev (fun k => impl_independent.f k n (ints B) (s : Int)) (isInd B s) := by
  unfold impl_independent.f
  have h := loop_back (fun k i => impl_independent.l0 k (s : Int) (ints B) ((ints B).length : Int) i) B.length (fun i r => decide (s &&& B.getD i 0 = s) || r) false
    (by simp only [impl_independent.l0, ints_length, show ¬ ((B.length : Int) < (B.length : Int)) by omega, if_false]; exact Ev.now _) fun i hi r hr => by
      have hb := getD_lt M.lt i hi
      have eb := rd_get' i hi
      simp only [impl_independent.l0, ints_length, show ((i : Int) < (B.length : Int)) by omega, show (0 : Int) ≤ (i : Int) by omega, if_true, eb, IsSubset_i hs (lt256 M.size hb), Option.bind_some, decide_eq_true_eq, wrap_succ (show i < 9223372036854775807 by omega)]
      by_cases h : s &&& B.getD i 0 = s
      · simp only [h, if_true, decide_true, Bool.true_or]; exact Ev.now _
      · simp only [h, if_false, decide_false, Bool.false_or]; simpa [ints_length] using hr
  rw [foldr_any, Bool.or_false] at h
  have e : ((List.range B.length).any fun i => decide (s &&& B.getD i 0 = s)) = isInd B s := by
    rw [Bool.eq_iff_iff, isInd_iff M hs, List.any_eq_true]
    constructor
    · rintro ⟨i, hi, h⟩
      rw [List.mem_range] at hi
      rw [decide_eq_true_eq] at h
      refine ⟨B.getD i 0, ?_, sub_iff_and.2 h⟩
      rw [show B.getD i 0 = B[i] by simp [List.getElem?_eq_getElem hi]]; exact List.getElem_mem hi
    · rintro ⟨b, hb, h⟩
      obtain ⟨i, hi, rfl⟩ := List.getElem_of_mem hb
      refine ⟨i, List.mem_range.2 hi, ?_⟩
      rw [decide_eq_true_eq, show B.getD i 0 = B[i] by simp [List.getElem?_eq_getElem hi]]
      exact sub_iff_and.1 h
  rw [e] at h
  exact h
end
def indI (n : Int) (l : List Int) : List Int := if isMatroid n l = true then ints (indN (l.map Int.toNat) (2 ^ n.toNat)) else []
theorem indI_length (n : Int) (l : List Int) : (indI n l).length ≤ 17592186044416 := by
  unfold indI
  split
  · rename_i h
    obtain ⟨N, B, rfl, rfl, hp, M⟩ := mat_parts h
    have hp : (2 : Nat) ^ N ≤ 2 ^ 8 := Nat.pow_le_pow_right (by decide) M.size
    have := indN_len B (2 ^ N)
    rw [ints_length, Int.toNat_natCast, toNat_ints]; omega
  · simp
theorem IndependentSets_i (n : Int) (l : List Int) (hl : l.length ≤ 17592186044416) : Ev (fun k => impl_IndependentSets.f k n l) (indI n l) := by
  unfold impl_IndependentSets.f indI
  refine Ev.bind (IsMatroid_i n l hl) ?_
  cases h : isMatroid n l
  · simp only [Bool.false_eq_true, if_false]; exact Ev.now _
  obtain ⟨N, B, rfl, rfl, hp, M⟩ := mat_parts h
  rw [ints_length] at hl
  simp only [if_true, toNat_ints, Int.toNat_natCast]
  exact setsO_ev (fun k => impl_IndependentSets.q k N (ints B)) (isInd B) M.size fun s hs => independent_i M hl (lt256 M.size hs) _
end Go.Proofs.Ytmeopnlkddflaaa.L
end
section
namespace Go.Proofs.Ytmeopnlkddflaaa.L
open Go.RowKit Go.Proofs.Ytmeopnlkddflaaa.F Go.Proofs.YtmeopnlkddflaaaW.PrintWords Go.Proofs.YtmeopnlkddflaaaW.PrintLast Go.Proofs.YtmeopnlkddflaaaW.PrintMore
open Go.Proofs.Ytmeopnlkddflaaa.Bits
open Go.Proofs.Ytmeopnlkddflaaa.Mt (sdiff cnt full Mat lt256 rk)
set_option linter.unusedSimpArgs false
set_option linter.unusedVariables false
/-- One more of this set's size. -/
def bump (acc : List Int) (s : Nat) : List Int := acc.set (cnt s) (wrap64 (rd acc ((cnt s : Nat) : Int) + 1))
theorem bump_len (acc : List Int) (s : Nat) : (bump acc s).length = acc.length := by simp [bump]
theorem bumps_len (L : List Nat) (acc : List Int) : (L.foldl bump acc).length = acc.length := by
  induction L generalizing acc with
  | nil => rfl
  | cons a L ih => rw [List.foldl_cons, ih, bump_len]
def ranksN (N : Nat) (B : List Nat) (m : Nat) : List Int := (indN B m).foldl bump (List.replicate (N + 1) 0)
theorem ranksN_len (N : Nat) (B : List Nat) (m : Nat) : (ranksN N B m).length = N + 1 := by unfold ranksN; rw [bumps_len]; simp
theorem cnt_le_N {N s : Nat} (hN : N ≤ 8) (hs : s < 2 ^ N) : cnt s ≤ N := by
  have := Mt.cnt_mono (Mt.sub_full hs)
  rwa [Mt.cnt_full hN] at this
section
variable {N : Nat} {B : List Nat}
theorem allRanks_s (M : Mat N B) (hl : B.length ≤ 17592186044416) : Ev (fun k => spec_AllRanks.l0 k (List.replicate (N + 1) 0) 0 N (ints B)) (ranksN N B (2 ^ N)) := by
  have hp : (2 : Nat) ^ N ≤ 2 ^ 8 := Nat.pow_le_pow_right (by decide) M.size
  have key := loop_reach (fun k acc s => spec_AllRanks.l0 k acc s N (ints B)) (2 ^ N) (fun acc s => if isInd B s = true then bump acc s else acc) (fun s acc => acc = ranksN N B s)
    (fun s acc hs ha => ⟨by
      rw [ha]; unfold ranksN indN
      rw [List.range_succ, List.filter_append, List.foldl_append]
      cases h : isInd B s <;> simp [h], fun r hr => by
      have hlen : acc.length = N + 1 := by rw [ha]; exact ranksN_len N B s
      have hc := cnt_le_N M.size hs
      have hs8 := lt256 M.size hs
      simp only [spec_AllRanks.l0, FullSet_s M.size, Option.bind_some, le_full.2 hs, if_true, wrap_succ (show s < 9223372036854775807 by omega)]
      refine Ev.bind (rank_s M.size M.lt hl hs8 _) (Ev.bind (CountOf_s _) ?_)
      rw [cntI_nat hs8]
      by_cases h : rk B s = cnt s
      · rw [show isInd B s = true from decide_eq_true h] at hr
        simp only [if_true] at hr
        simp only [h, if_true]
        have hcs := CountOf_s (s : Int)
        rw [cntI_nat hs8] at hcs
        refine Ev.bind hcs (Ev.bind hcs ?_)
        simp only [show (0 : Int) ≤ ((cnt s : Nat) : Int) by omega, show ((cnt s : Nat) : Int) < (acc.length : Int) by omega, if_true, Int.toNat_natCast]
        exact hr
      · rw [show isInd B s = false from decide_eq_false h] at hr
        simp only [Bool.false_eq_true, if_false] at hr
        simp only [show ¬ (((rk B s : Nat) : Int) = ((cnt s : Nat) : Int)) by omega, if_false]
        exact hr⟩) (List.replicate (N + 1) 0) (by simp [ranksN, indN])
  refine key.2 _ (Ev.succ ?_)
  rw [key.1]
  simp only [spec_AllRanks.l0, FullSet_s M.size, Option.bind_some, if_neg (fun h => Nat.lt_irrefl _ (le_full.1 h))]
  exact Ev.now _
theorem allRanks_i (M : Mat N B) : Ev (fun k => impl_AllRanks.l0 k (List.replicate (N + 1) 0) (ints (indN B (2 ^ N))) ((ints (indN B (2 ^ N))).length : Int) 0) (ranksN N B (2 ^ N)) := by
  have hp : (2 : Nat) ^ N ≤ 2 ^ 8 := Nat.pow_le_pow_right (by decide) M.size
  have hL : ∀ s ∈ indN B (2 ^ N), s < 2 ^ N := fun s hs => indN_lt hs
  have hlen := indN_len B (2 ^ N)
  unfold ranksN
  generalize indN B (2 ^ N) = L at hL hlen
  rw [ints_length]
  have key := loop_reach (fun k acc i => impl_AllRanks.l0 k acc (ints L) (L.length : Int) i) L.length (fun acc i => bump acc (L.getD i 0)) (fun i acc => acc = (L.take i).foldl bump (List.replicate (N + 1) 0))
    (fun i acc hi ha => ⟨by
      rw [List.take_succ_eq_append_getElem hi, List.foldl_append, ha, show L.getD i 0 = L[i] by simp [List.getElem?_eq_getElem hi]]; rfl, fun r hr => by
      have hacc : acc.length = N + 1 := by rw [ha, bumps_len]; simp
      have hs : L.getD i 0 < 2 ^ N := by rw [show L.getD i 0 = L[i] by simp [List.getElem?_eq_getElem hi]]; exact hL _ (List.getElem_mem hi)
      have es := rd_get' (B := L) i hi
      generalize L.getD i 0 = s at hs es hr
      have hc := cnt_le_N M.size hs
      have hs8 := lt256 M.size hs
      simp only [impl_AllRanks.l0, ints_length, show ((i : Int) < (L.length : Int)) by omega, show (0 : Int) ≤ (i : Int) by omega, if_true, es, wrap_succ (show i < 9223372036854775807 by omega), CountOf_i, Option.bind_some, cntI_nat hs8,
        show (0 : Int) ≤ ((cnt s : Nat) : Int) by omega, show ((cnt s : Nat) : Int) < (acc.length : Int) by omega, Int.toNat_natCast]
      exact hr⟩) (List.replicate (N + 1) 0) (by simp)
  refine key.2 _ (Ev.succ ?_)
  rw [key.1, List.take_length]
  simp only [impl_AllRanks.l0, ints_length, show ¬ ((L.length : Int) < (L.length : Int)) by omega, if_false]
  exact Ev.now _
end
def allRanksI (n : Int) (l : List Int) : List Int := if isMatroid n l = true then ranksN n.toNat (l.map Int.toNat) (2 ^ n.toNat) else []
theorem allRanksI_length (n : Int) (l : List Int) : (allRanksI n l).length ≤ 17592186044416 := by
  unfold allRanksI
  split
  · rename_i h
    obtain ⟨N, B, rfl, rfl, hp, M⟩ := mat_parts h
    have := M.size
    rw [ranksN_len, Int.toNat_natCast]; omega
  · simp
theorem AllRanks_s (n : Int) (l : List Int) (hl : l.length ≤ 17592186044416) : Ev (fun k => spec_AllRanks.f k n l) (allRanksI n l) := by
  unfold spec_AllRanks.f allRanksI
  refine Ev.bind (IsMatroid_s n l hl) ?_
  cases h : isMatroid n l
  · simp only [Bool.false_eq_true, if_false]; exact Ev.now _
  obtain ⟨N, B, rfl, rfl, hp, M⟩ := mat_parts h
  have hN := M.size
  rw [ints_length] at hl
  simp only [if_true, toNat_ints, Int.toNat_natCast, wrap_succ (show N < 9223372036854775807 by omega), show (0 : Int) ≤ ((N + 1 : Nat) : Int) by omega, show N + 1 ≤ 35184372088832 by omega]
  exact allRanks_s M hl
theorem AllRanks_i (n : Int) (l : List Int) (hl : l.length ≤ 17592186044416) : Ev (fun k => impl_AllRanks.f k n l) (allRanksI n l) := by
  have hi := IndependentSets_i n l hl
  unfold impl_AllRanks.f allRanksI
  refine Ev.bind (IsMatroid_i n l hl) ?_
  unfold indI at hi
  cases h : isMatroid n l
  · simp only [Bool.false_eq_true, if_false]; exact Ev.now _
  rw [h] at hi
  obtain ⟨N, B, rfl, rfl, hp, M⟩ := mat_parts h
  have hN := M.size
  rw [ints_length] at hl
  simp only [if_true, toNat_ints, Int.toNat_natCast] at hi
  simp only [if_true, toNat_ints, Int.toNat_natCast, wrap_succ (show N < 9223372036854775807 by omega), show (0 : Int) ≤ ((N + 1 : Nat) : Int) by omega, show N + 1 ≤ 35184372088832 by omega]
  exact Ev.bind hi (allRanks_i M)
end Go.Proofs.Ytmeopnlkddflaaa.L
end
section
namespace Go.Proofs.Ytmeopnlkddflaaa.L
open Go.RowKit Go.Proofs.Ytmeopnlkddflaaa.F Go.Proofs.YtmeopnlkddflaaaW.PrintWords Go.Proofs.YtmeopnlkddflaaaW.PrintLast Go.Proofs.YtmeopnlkddflaaaW.PrintMore
open Go.Proofs.Ytmeopnlkddflaaa.Bits

theorem all_eq_range (l l' : List Int) (h : l.length = l'.length) : (List.range l.length).all (fun i => decide (l.getD i 0 = l'.getD i 0)) = decide (l = l') := by
  rw [Bool.eq_iff_iff, List.all_eq_true, decide_eq_true_iff]
  constructor
  · intro hh
    apply List.ext_getElem h
    intro i h1 h2
    have := hh i (by simpa using h1)
    simpa [List.getElem?_eq_getElem h1, List.getElem?_eq_getElem h2] using this
  · rintro rfl i _
    simp

theorem eqIntS (l l' : List Int) (h : l.length ≤ 17592186044416) : Ev (fun k => laws_eqIntS.f k l l') (decide (l = l')) := by
  unfold laws_eqIntS.f
  by_cases e : l.length = l'.length
  · simp only [show ((l.length : Int) = (l'.length : Int)) by omega, if_true]
    rw [← all_eq_range l l' e]
    refine loop_all0 _ _ _ (fun k => by simp only [laws_eqIntS.l0, show ¬ ((l.length : Int) < (l.length : Int)) by omega, if_false]) ?_
    intro i hi k
    simp only [laws_eqIntS.l0, show ((i : Int) < (l.length : Int)) by omega, show ((i : Int) < (l'.length : Int)) by omega, show (0 : Int) ≤ (i : Int) by omega, if_true, rd_getD, wrap_succ (show i < 9223372036854775807 by omega), decide_eq_true_eq]
  · simp only [show ¬ ((l.length : Int) = (l'.length : Int)) by omega, if_false]
    rw [show decide (l = l') = false by simp; rintro rfl; exact e rfl]
    exact Ev.now _

theorem szIntS (l : List Int) (n : Int) (h : l.length ≤ 17592186044416) (h0 : 0 ≤ n) (h1 : n ≤ 1048576) : laws_szIntS.f l n = some (if n < l.length then -1 else n - l.length) := by
  unfold laws_szIntS.f
  have hw : wrap64 (n - (l.length : Int)) = n - (l.length : Int) := wrap_in (by omega) (by omega)
  rw [hw]
  split
  · rw [if_pos (by omega)]
  · rw [if_neg (by omega)]

theorem fold_copy (l : List Int) : ∀ n, n ≤ l.length → (List.range n).foldl (fun a i => a.set i (l.getD i 0)) (List.replicate l.length 0) = l.take n ++ List.replicate (l.length - n) 0
  | 0, _ => by simp
  | n + 1, h => by
    rw [List.range_succ, List.foldl_append, fold_copy l n (by omega)]
    simp only [List.foldl_cons, List.foldl_nil]
    obtain ⟨m, hm⟩ : ∃ m, l.length - n = m + 1 := ⟨l.length - n - 1, by omega⟩
    rw [hm, List.replicate_succ, List.set_append_right _ _ (by simp; omega)]
    have : n - (List.take n l).length = 0 := by simp; omega
    rw [this, List.set_cons_zero, show l.length - (n + 1) = m by omega]
    have hg : l.getD n 0 = l[n] := by simp [List.getElem?_eq_getElem (show n < l.length by omega)]
    rw [List.take_succ_eq_append_getElem (by omega), List.append_assoc, List.singleton_append, hg]

theorem toIntS (l : List Int) (h : l.length ≤ 17592186044416) : Ev (fun k => laws_toIntS.f k l) l := by
  unfold laws_toIntS.f
  simp only [show (0 : Int) ≤ (l.length : Int) by omega, Int.toNat_natCast, show l.length ≤ 35184372088832 by omega, if_true]
  have key := loop_fold0 (fun k s i => laws_toIntS.l0 k l s i) l.length (fun a i => a.set i (l.getD i 0)) (fun _ s => s.length = l.length) id
    (fun s hs => by
      simp only [laws_toIntS.l0, show ¬ ((l.length : Int) < (l.length : Int)) by omega, if_false]
      exact Ev.now _)
    (fun i s hi hs => ⟨by simp [hs], fun r hr => by
      simp only [laws_toIntS.l0, show ((i : Int) < (l.length : Int)) by omega, show ((i : Int) < (s.length : Int)) by omega, show (0 : Int) ≤ (i : Int) by omega, if_true, Int.toNat_natCast, rd_getD, wrap_succ (show i < 9223372036854775807 by omega)]
      exact hr⟩) (List.replicate l.length 0) (by simp)
  rw [fold_copy l l.length (Nat.le_refl _)] at key
  simpa using key
end Go.Proofs.Ytmeopnlkddflaaa.L
end
section
namespace Go.Proofs.Ytmeopnlkddflaaa.L
open Go.RowKit Go.Proofs.Ytmeopnlkddflaaa.F Go.Proofs.YtmeopnlkddflaaaW.PrintWords Go.Proofs.YtmeopnlkddflaaaW.PrintLast Go.Proofs.YtmeopnlkddflaaaW.PrintMore
open Go.Proofs.Ytmeopnlkddflaaa.Bits
set_option linter.unusedSimpArgs false
/-- n numbers from m on. -/
def markL (n : Nat) (m : Int) : List Int := (List.range n).map fun i : Nat => m + (i : Int)
theorem markL_length (n : Nat) (m : Int) : (markL n m).length = n := by simp [markL]
theorem markL_get (n : Nat) (m : Int) (i : Nat) (h : i < n) : (markL n m).getD i 0 = m + i := by simp [markL, h]
theorem fold_mark (l : List Int) (m : Int) : ∀ n, n ≤ l.length → (List.range n).foldl (fun (s : List Int × Int) i => (s.1.set i s.2, s.2 + 1)) (l, m) = (markL n m ++ l.drop n, m + n)
  | 0, _ => by simp [markL]
  | n + 1, h => by
    rw [List.range_succ, List.foldl_append, fold_mark l m n (by omega)]
    simp only [List.foldl_cons, List.foldl_nil, Prod.mk.injEq]
    refine ⟨?_, by omega⟩
    rw [List.set_append_right _ _ (by rw [markL_length]; exact Nat.le_refl n), markL_length, Nat.sub_self, List.drop_eq_getElem_cons (by omega), List.set_cons_zero]
    simp [markL, List.range_succ]
theorem markIntS (l : List Int) (m : Int) (h : l.length ≤ 17592186044416) (h0 : 0 ≤ m) (h1 : m ≤ 140737488355328) : Ev (fun k => laws_markIntS.f k l m) (m + l.length, markL l.length m) := by
  unfold laws_markIntS.f
  have key := loop_fold0 (fun k (s : List Int × Int) i => laws_markIntS.l0 k s.1 s.2 i) l.length (fun s i => (s.1.set i s.2, s.2 + 1)) (fun i s => s.1.length = l.length ∧ s.2 = m + i) (fun s => (s.2, s.1))
    (fun s hs => by
      simp only [laws_markIntS.l0, hs.1, show ¬ ((l.length : Int) < (l.length : Int)) by omega, if_false]
      exact Ev.now _)
    (fun i s hi hs => ⟨⟨by simp [hs.1], by simp only [hs.2]; omega⟩, fun r hr => by
      have hw : wrap64 (s.2 + 1) = s.2 + 1 := wrap_in (by omega) (by omega)
      simp only [laws_markIntS.l0, hs.1, show ((i : Int) < (l.length : Int)) by omega, show (0 : Int) ≤ (i : Int) by omega, if_true, Int.toNat_natCast, hw, wrap_succ (show i < 9223372036854775807 by omega)]
      exact hr⟩) (l, m) ⟨rfl, by simp⟩
  rw [fold_mark l m l.length (Nat.le_refl _)] at key
  simpa using key
theorem heldIntS (n : Nat) (m : Int) (h : n ≤ 17592186044416) (h0 : 0 ≤ m) (h1 : m ≤ 140737488355328) : Ev (fun k => laws_heldIntS.f k (markL n m) m) (m + n) := by
  unfold laws_heldIntS.f
  have key := loop_fold0 (fun k (s : Int) i => laws_heldIntS.l0 k (markL n m) s i) n (fun s _ => s + 1) (fun i s => s = m + i) id
    (fun s hs => by
      simp only [laws_heldIntS.l0, markL_length, show ¬ ((n : Int) < (n : Int)) by omega, if_false]
      exact Ev.now _)
    (fun i s hi hs => ⟨by rw [hs]; omega, fun r hr => by
      have hw : wrap64 (s + 1) = s + 1 := wrap_in (by omega) (by omega)
      have hg : rd (markL n m) (i : Int) = s := by rw [rd_getD, markL_get n m i hi, hs]
      simp only [laws_heldIntS.l0, markL_length, hg, show ((i : Int) < (n : Int)) by omega, show (0 : Int) ≤ (i : Int) by omega, if_true, hw, wrap_succ (show i < 9223372036854775807 by omega)]
      exact hr⟩) m (by simp)
  have e : ∀ n : Nat, (List.range n).foldl (fun (s : Int) _ => s + 1) m = m + n := by
    intro n
    induction n with
    | zero => simp
    | succ n ih => rw [List.range_succ, List.foldl_append, ih]; simp; omega
  rw [e n] at key
  exact key
end Go.Proofs.Ytmeopnlkddflaaa.L
end
section
namespace Go.Proofs.Ytmeopnlkddflaaa.L
open Go.RowKit Go.Proofs.Ytmeopnlkddflaaa.F Go.Proofs.YtmeopnlkddflaaaW.PrintWords Go.Proofs.YtmeopnlkddflaaaW.PrintLast Go.Proofs.YtmeopnlkddflaaaW.PrintMore
open Go.Proofs.Ytmeopnlkddflaaa.Bits
set_option linter.unusedSimpArgs false
theorem szMatroid (n : Int) (l : List Int) (h : l.length ≤ 17592186044416) : ∃ m, laws_szMatroid.f n l 1048576 = some m ∧ (m < 0 ∨ (0 ≤ m ∧ l.length ≤ 1048576)) := by
  unfold laws_szMatroid.f
  rw [szIntS l 1048576 h (by decide) (by decide)]
  simp only [Option.bind_some]
  by_cases hn : (1048576 : Int) < (l.length : Int)
  · rw [if_pos hn, if_pos (by decide)]; exact ⟨_, rfl, .inl (by decide)⟩
  · rw [if_neg hn, if_neg (by omega)]; exact ⟨_, rfl, .inr (by omega)⟩
theorem toMatroid (n : Int) (l : List Int) (h : l.length ≤ 17592186044416) : Ev (fun k => laws_toMatroid.f k n l) (n, l) := by
  unfold laws_toMatroid.f; exact Ev.bind (toIntS l h) (Ev.now _)
theorem eqMatroid (n : Int) (l : List Int) (h : l.length ≤ 17592186044416) : Ev (fun k => laws_eqMatroid.f k n l n l) true := by
  unfold laws_eqMatroid.f
  simp only [if_true]
  refine Ev.bind (eqIntS l l h) ?_
  simp only [decide_true, if_true]; exact Ev.now _
theorem markMatroid (n : Int) (l : List Int) (h : l.length ≤ 17592186044416) : Ev (fun k => laws_markMatroid.f k n l 1) (1 + l.length, markL l.length 1) := by
  unfold laws_markMatroid.f; exact Ev.bind (markIntS l 1 h (by decide) (by decide)) (Ev.now _)
end Go.Proofs.Ytmeopnlkddflaaa.L
end
section
namespace Go.Proofs.Ytmeopnlkddflaaa.Pure
open Go.RowKit Go.Proofs.Ytmeopnlkddflaaa.F Go.Proofs.Ytmeopnlkddflaaa.L Go.Proofs.YtmeopnlkddflaaaW.PrintWords Go.Proofs.YtmeopnlkddflaaaW.PrintLast Go.Proofs.YtmeopnlkddflaaaW.PrintMore
set_option linter.unusedSimpArgs false
theorem FnExactAllRanks (n : Int) (l : List Int) (_ : (Lit.int .i64 n).wf = true) (hl : l.length * 8 ≤ 140737488351232) (_ : ∀ x ∈ l, (Lit.int .i64 x).wf = true) :
    ∃ k, laws_FnExactAllRanks.f k n l = some true := by
  have h1 : l.length ≤ 17592186044416 := by omega
  refine Ev.rounds ?_
  unfold laws_FnExactAllRanks.f
  obtain ⟨m, hm, hx⟩ := szMatroid n l h1
  simp only [hm, Option.bind_some]
  by_cases h : m < 0
  · simp only [h, if_true]; exact Ev.now _
  simp only [h, if_false]
  have hi := AllRanks_i n l h1
  have h2 := allRanksI_length n l
  refine Ev.bind (toMatroid n l h1) (Ev.bind (AllRanks_s n l h1) (Ev.bind (toMatroid n l h1) (Ev.bind hi ?_)))
  generalize allRanksI n l = t at hi h2 ⊢
  have he := eqIntS t t h2
  simp only [decide_true] at he
  have hh := heldIntS t.length 1 h2 (by omega) (by omega)
  refine Ev.bind he ?_
  simp only [if_true]
  refine Ev.bind (toMatroid n l h1) (Ev.bind (eqMatroid n l h1) ?_)
  simp only [if_true]
  refine Ev.bind (markMatroid n l h1) ?_
  simp only [show ¬ (1 + (l.length : Int) < 0) by omega, if_false]
  refine Ev.bind he ?_
  refine Ev.succ ?_
  simp only [laws_FnExactAllRanks.j0, Bool.not_true, Bool.false_eq_true, if_false]
  refine Ev.bind (markIntS t 1 h2 (by omega) (by omega)) (Ev.bind hh ?_)
  simp only [show ¬ (1 + (t.length : Int) < 0) by omega, if_false, if_true]
  refine Ev.bind (toMatroid n l h1) (Ev.bind hi (Ev.bind he ?_))
  simp only [if_true]
  refine Ev.bind hh ?_
  simp only [show ¬ (1 + (t.length : Int) < 0) by omega, if_false, if_true]
  exact Ev.now _
end Go.Proofs.Ytmeopnlkddflaaa.Pure
end
section
namespace Go.Proofs.Ytmeopnlkddflaaa.fnExactAllRanks
open Go.ChangeShapes Go.WideShapes Go.ChangeAt Go.RowKit Go.Joins
open Go.ChangeMaps (open_string shut_string)
set_option linter.unusedVariables false
set_option maxRecDepth 100000 in
theorem lifted (os : Os) (started : os.Started) (H : Type) (enc : TypeId × Value → H) :
    ReturnsInHanded {} Try.checked os 6 .any (Rows.fnExactAllRanksSpec.pre6 enc Try.prog Try.f6 Rows.fnExactAllRanksRow.domain false) (Rows.fnExactAllRanksSpec.post enc Try.prog Try.f6 false true false false) := by
  refine returnsInHanded_of_change_sized (C := Try.checked) Open.own started (by kernel_rfl) Try.func6
    (ChangeSpec.witness6 (enc := enc) (C := Try.checked) false ⟨#[], #[.agg #[.int .i64 0, .slice none 0 0]], []⟩ 8 (by kernel_rfl) (by kernel_rfl) (by kernel_rfl) (by kernel_rfl)) ?_
  intro W base args ds gs before hval0 hW hcnd hsz0 _
  have hsz : (DataW.weightsEach Try.prog (Try.f6.params.toList ++ Rows.fnExactAllRanksSpec.plain.varTypes Try.prog) (ds ++ gs)).all (· ≤ reachBytes) = true := hsz0
  have hval : ∀ (j : Nat) t v, Try.f6.params[j]? = some t → args[j]? = some v → Value.okWide Try.prog W .any base t v := hval0
  have hW' := hW
  obtain ⟨p, q, hA0, hV, rfl, hfz, hnd⟩ := hW
  have hA : DataW.TrodAll enc Try.prog W 0 (fun _ => true) true Try.f6.params.toList args.toList ds p := hA0
  rw [Try.params6] at hA hval hsz
  obtain ⟨v0, vs0, d0, ds0, p0, q0, hargs, rfl, rfl, h0, r0⟩ := trodAll_cons hA
  obtain ⟨rfl, rfl, rfl⟩ := trodAll_nil r0
  obtain rfl : args = #[v0] := by cases args; simp_all
  obtain ⟨rfl, rfl⟩ := trodVars_none hV
  have k0 := h0
  have lt0 : ∀ x ∈ p0, x.block < W.heap.size := by obtain ⟨m, hm⟩ := k0; exact DataW.trod_lt m _ _ _ hm
  obtain ⟨v0_0, v0_1, y0_0, y0_1, fuel0, rfl, hd0, hp0, t0_0, t0_1⟩ := open_agg2 Try.underlying24 (by kernel_rfl) (by kernel_rfl) (hval 0 24 v0 rfl rfl) h0
  have z0 : (DataW.weightsEach Try.prog [3, 22] [y0_0.1, y0_1.1]).all (· ≤ reachBytes) = true := Open.sized_agg hsz (j := 0) (t := 24) rfl (congrArg some hd0) Try.underlying24
  obtain ⟨a0_0, e0_0, _, w0_0⟩ := DataW.trod_int Try.underlying3 t0_0
  obtain rfl : v0_0 = _ := (List.cons.inj e0_0).1
  obtain ⟨A0_1, c0_1, l0_1, rfl, hr0_1, hc0_1, hn0_1, hw0_1⟩ := Open.open_row (j := 1) Try.underlying22 Try.underlying3 (by kernel_rfl) (by kernel_rfl) z0 rfl rfl t0_1
  obtain ⟨k, h⟩ := Pure.FnExactAllRanks a0_0 l0_1 w0_0 hn0_1 hw0_1
  refine (F.laws_FnExactAllRanks.calls (w := W) (hr0_1 := hr0_1) (hc0_1 := hc0_1) (h := h)).mono ?_
  rintro e W' ⟨he, hd⟩
  have bel : Below W.heap.size W W' := by first | exact hd | exact hd.below
  subst he
  exact ⟨_, rfl, _, _, _, [], _, [], hW', trodAll_mk1 (shut_bool Try.underlying4 _), (trodAll_cons_mk (Below.trod Open.laidOut (by kernel_rfl) (of_decide_eq_true (by kernel_rfl)) k0 bel lt0) trodAll_mk0), rfl, bel.frame _, fun h => by cases h⟩
theorem over : Rows.fnExactAllRanksRow.holds Try.pinned (OpenSpec.ofChange Rows.fnExactAllRanksSpec) :=
  OpenClaim.holds_of_wide 6 Try.f6 rfl rfl rfl rfl rfl rfl rfl ⟨rfl, rfl, rfl, rfl, rfl⟩ rfl rfl rfl rfl rfl (by kernel_rfl) Try.func6 (by kernel_rfl)
    (of_decide_eq_true (by kernel_rfl)) (by unfold Func.isWrapper; first | (rw [if_pos (by decide +kernel)]; kernel_rfl) | (rw [if_neg (by decide +kernel)]; exact ⟨rfl, rfl⟩))
    (fun os started H enc _ => lifted os started H enc)
theorem proved : Rows.FnExactAllRanksSaid := over
end Go.Proofs.Ytmeopnlkddflaaa.fnExactAllRanks
namespace Go.Proofs.Ytmeopnlkddflaaa
/-- The row, under a short name, for the claim. -/
theorem fnExactAllRanks_holds : Rows.FnExactAllRanksSaid := fnExactAllRanks.proved
#print axioms fnExactAllRanks_holds
end Go.Proofs.Ytmeopnlkddflaaa
end
