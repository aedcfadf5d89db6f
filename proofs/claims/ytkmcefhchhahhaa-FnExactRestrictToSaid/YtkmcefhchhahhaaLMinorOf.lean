/-
  Restriction, and minors: of program and reference the same. Condition: lists of at most 2^44 elements.
-/
import Derived.Test.YtkmcefhchhahhaaFx19
import Derived.Test.YtkmcefhchhahhaaFx15
import Derived.Test.YtkmcefhchhahhaaFx25
import Derived.Test.YtkmcefhchhahhaaFx26
import Derived.Test.YtkmcefhchhahhaaLMinor
namespace Go.Proofs.Ytkmcefhchhahhaa.L
open Go.RowKit Go.Proofs.Ytkmcefhchhahhaa.F Go.Proofs.YtkmcefhchhahhaaW.PrintWords Go.Proofs.YtkmcefhchhahhaaW.PrintLast Go.Proofs.YtkmcefhchhahhaaW.PrintMore
open Go.Proofs.Ytkmcefhchhahhaa.Bits
open Go.Proofs.Ytkmcefhchhahhaa.Mt (sdiff full Mat lt256 co co_lt co_co cnt cnt_le rk pk pk_lt pk_lt256 minorN minorP mem_minorN minorN_sorted minorP_congr)
set_option linter.unusedSimpArgs false
set_option linter.unusedVariables false
def restrictI (n : Int) (l : List Int) (s : Int) : Int × List Int := if isMatroid n l && isSetB n s then ((cnt s.toNat : Int), ints (minorN (l.map Int.toNat) s.toNat 0)) else (0, [])
theorem restrictI_length (n : Int) (l : List Int) (s : Int) : (restrictI n l s).2.length ≤ 17592186044416 := by
  unfold restrictI; split
  · have := minorN_len (l.map Int.toNat) s.toNat 0
    rw [ints_length]; omega
  · simp
theorem RestrictTo_s (n : Int) (l : List Int) (s : Int) (hl : l.length ≤ 17592186044416) : Ev (fun k => spec_RestrictTo.f k n l s) (restrictI n l s) := by
  unfold spec_RestrictTo.f restrictI
  refine Ev.bind (RankOf_s n l s hl) ?_
  cases h : (isMatroid n l && isSetB n s)
  · rw [rank_no h]; simp only [show ((-1 : Int) < 0) by omega, if_true, Bool.false_eq_true, if_false]; exact Ev.now _
  have hr : rankI n l s = (rk (l.map Int.toNat) s.toNat : Int) := by unfold rankI; rw [h]; simp
  rw [hr]
  obtain ⟨N, B, S, rfl, rfl, rfl, hS, hp, M⟩ := both_parts h
  simp only [if_true, toNat_ints, Int.toNat_natCast, show ¬ (((rk B S : Nat) : Int) < 0) by omega, if_false, FullSet_s M.size, Option.bind_some, comp_s M.size hS]
  have := delete_s M hp (co_lt N S)
  rw [co_co hS] at this
  exact Ev.bind this (Ev.now _)
theorem RestrictTo_i (n : Int) (l : List Int) (s : Int) (hl : l.length ≤ 17592186044416) : Ev (fun k => impl_RestrictTo.f k n l s) (restrictI n l s) := by
  unfold impl_RestrictTo.f restrictI
  refine Ev.bind (knows_i n l s hl) ?_
  cases h : (isMatroid n l && isSetB n s)
  · simp only [Bool.false_eq_true, if_false]; exact Ev.now _
  obtain ⟨N, B, S, rfl, rfl, rfl, hS, hp, M⟩ := both_parts h
  rw [ints_length] at hl
  simp only [if_true, toNat_ints, Int.toNat_natCast]
  have := minor_i M.size M.lt hl (K := S) (S := 0) (lt256 M.size hS) (by decide)
  exact Ev.bind this (Ev.now _)
/-! ### minors -/
/-- What is left where G is deleted and S contracted, before it is packed. -/
def left (N G S : Nat) : Nat := sdiff (co N G) S
theorem left_lt (N G S : Nat) : left N G S < 2 ^ N := sdiff_lt (co_lt N G)
theorem delete_mat {N : Nat} {B : List Nat} (M : Mat N B) {K : Nat} (hK : K < 256) : Mat (cnt K) (minorN B K 0) := (M.res_mat hK).congr fun x => by rw [mem_minorN, M.res_pk hK]
theorem minor_list {N : Nat} {B : List Nat} (M : Mat N B) {G S : Nat} (hS : S < 2 ^ N) (hd : G &&& S = 0) :
    minorN (minorN B (co N G) 0) (co (cnt (co N G)) (pk (co N G) S)) (pk (co N G) S) = minorN B (left N G S) S :=
  sorted_extN (minorN_sorted _ _) (minorN_sorted _ _) fun x => by
    have hK := lt256 M.size (co_lt N G)
    rw [mem_minorN, mem_minorN, minorP_congr (B := (Mt.resB B (co N G)).map (pk (co N G))) (fun y => by rw [mem_minorN, M.res_pk hK])]
    exact M.minor_pk hS hd
theorem minor_cnt {N : Nat} {B : List Nat} (M : Mat N B) {G S : Nat} (hS : S < 2 ^ N) (hd : G &&& S = 0) : cnt (co (cnt (co N G)) (pk (co N G) S)) = cnt (left N G S) := by
  unfold co left
  rw [← Mt.pk_self, ← Mt.pk_sdiff, Mt.cnt_pk]
  rw [Mt.sub_iff_and.1 (fun i hi => by rw [Mt.bit_sdiff] at hi; simp only [Bool.and_eq_true] at hi; exact hi.1)]
  rfl
/-- The minor, and whether there is one. -/
def minorOfI (n : Int) (l : List Int) (g s : Int) : Int × List Int × Bool :=
  if (isMatroid n l && isSetB n g) && (isMatroid n l && isSetB n s) && decide (g.toNat &&& s.toNat = 0) then ((cnt (left n.toNat g.toNat s.toNat) : Int), ints (minorN (l.map Int.toNat) (left n.toNat g.toNat s.toNat) s.toNat), true) else (0, [], false)
theorem minorOfI_length (n : Int) (l : List Int) (g s : Int) : (minorOfI n l g s).2.1.length ≤ 17592186044416 := by
  unfold minorOfI; split
  · have := minorN_len (l.map Int.toNat) (left n.toNat g.toNat s.toNat) s.toNat
    rw [ints_length]; omega
  · simp
theorem minorOf_s {N : Nat} {B : List Nat} (M : Mat N B) (hp : B.Pairwise (· < ·)) {G S : Nat} (hG : G < 2 ^ N) (hS : S < 2 ^ N) (hd : G &&& S = 0) :
    Ev (fun k => spec_MinorOf.j0 k (G : Int) (S : Int) false N (ints B)) ((cnt (left N G S) : Int), ints (minorN B (left N G S) S), true) := by
  have hK := co_lt N G
  have hK8 := lt256 M.size hK
  refine Ev.succ ?_
  simp only [spec_MinorOf.j0, Bool.false_eq_true, if_false]
  refine Ev.bind (delete_s M hp hG) ?_
  simp only [FullSet_s M.size, Option.bind_some, comp_s M.size hG]
  refine Ev.bind (pack_s (lt256 M.size hS) hK8) ?_
  have := contract_s (delete_mat M hK8) (minorN_sorted _ _) (S := pk (co N G) S) (pk_lt _ _)
  rw [minor_list M hS hd, minor_cnt M hS hd] at this
  exact Ev.bind this (Ev.now _)
theorem MinorOf_s (n : Int) (l : List Int) (g s : Int) (hl : l.length ≤ 17592186044416) : Ev (fun k => spec_MinorOf.f k n l g s) (minorOfI n l g s) := by
  unfold spec_MinorOf.f minorOfI
  have no : Ev (fun k => spec_MinorOf.j0 k g s true n l) (0, [], false) := Ev.succ (by simp only [spec_MinorOf.j0, if_true]; exact Ev.now _)
  refine Ev.bind (RankOf_s n l g hl) ?_
  cases hg : (isMatroid n l && isSetB n g)
  · rw [rank_no hg]; simp only [show ((-1 : Int) < 0) by omega, if_true, Bool.false_and, Bool.false_eq_true, if_false]; exact no
  have hr : ¬ rankI n l g < 0 := by unfold rankI; rw [hg, if_pos rfl]; omega
  simp only [hr, if_false, Bool.true_and]
  refine Ev.bind (RankOf_s n l s hl) ?_
  cases hs : (isMatroid n l && isSetB n s)
  · rw [rank_no hs]; simp only [show ((-1 : Int) < 0) by omega, if_true, Bool.false_and, Bool.false_eq_true, if_false]; exact no
  have hr : ¬ rankI n l s < 0 := by unfold rankI; rw [hs, if_pos rfl]; omega
  simp only [hr, if_false, Bool.true_and]
  obtain ⟨N, B, G, rfl, rfl, rfl, hG, hp, M⟩ := both_parts hg
  obtain ⟨S, rfl, hS⟩ := set_nat (N := N) (s := s) (by rw [Bool.and_eq_true] at hs; exact hs.2)
  have h1 := lt256 M.size hG
  have h2 := lt256 M.size hS
  rw [bits_and G S (by omega) (by omega)]
  simp only [toNat_ints, Int.toNat_natCast]
  by_cases hd : G &&& S = 0
  · simp only [hd, decide_true, if_true, show ((((0 : Nat) : Int) != 0) = false) from rfl]
    exact minorOf_s M hp hG hS hd
  · rw [show ((((G &&& S : Nat) : Int) != 0) = true) by rw [bne_iff_ne]; omega]
    simp only [hd, decide_false, Bool.false_eq_true, if_false]; exact no
theorem MinorOf_i (n : Int) (l : List Int) (g s : Int) (hl : l.length ≤ 17592186044416) : Ev (fun k => impl_MinorOf.f k n l g s) (minorOfI n l g s) := by
  unfold impl_MinorOf.f minorOfI
  have no : Ev (fun k => impl_MinorOf.j0 k g s true n l) (0, [], false) := Ev.succ (by simp only [impl_MinorOf.j0, if_true]; exact Ev.now _)
  refine Ev.bind (knows_i n l g hl) ?_
  cases hg : (isMatroid n l && isSetB n g)
  · simp only [Bool.false_and, Bool.false_eq_true, if_false]; exact no
  simp only [if_true, Bool.true_and]
  refine Ev.bind (knows_i n l s hl) ?_
  cases hs : (isMatroid n l && isSetB n s)
  · simp only [Bool.false_and, Bool.false_eq_true, if_false]; exact no
  simp only [if_true, Bool.true_and]
  obtain ⟨N, B, G, rfl, rfl, rfl, hG, hp, M⟩ := both_parts hg
  obtain ⟨S, rfl, hS⟩ := set_nat (N := N) (s := s) (by rw [Bool.and_eq_true] at hs; exact hs.2)
  rw [ints_length] at hl
  have h1 := lt256 M.size hG
  have h2 := lt256 M.size hS
  have h3 := lt256 M.size (co_lt N G)
  rw [bits_and G S (by omega) (by omega)]
  simp only [toNat_ints, Int.toNat_natCast]
  by_cases hd : G &&& S = 0
  · simp only [hd, decide_true, if_true, show ((((0 : Nat) : Int) != 0) = false) from rfl]
    refine Ev.succ ?_
    simp only [impl_MinorOf.j0, Bool.false_eq_true, if_false, FullSet_i M.size, Option.bind_some, comp_i M.size hG]
    rw [bits_andNot (sdiff (full N) G) S (by have : sdiff (full N) G < 256 := h3; omega) (by omega)]
    exact Ev.bind (minor_i M.size M.lt hl (K := left N G S) (S := S) (lt256 M.size (left_lt N G S)) h2) (Ev.now _)
  · rw [show ((((G &&& S : Nat) : Int) != 0) = true) by rw [bne_iff_ne]; omega]
    simp only [hd, decide_false, Bool.false_eq_true, if_false]; exact no
end Go.Proofs.Ytkmcefhchhahhaa.L
