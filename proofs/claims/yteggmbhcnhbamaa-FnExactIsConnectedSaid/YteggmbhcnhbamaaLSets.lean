/-
  The functions on sets of eight elements: what the printed functions answer, as plain functions. No condition: they are told for all whole numbers.
-/
import Derived.Test.YteggmbhcnhbamaaFx1
import Derived.Test.YteggmbhcnhbamaaLoops
namespace Go.Proofs.Yteggmbhcnhbamaa.L
open Go.RowKit Go.Proofs.Yteggmbhcnhbamaa.F Go.Proofs.YteggmbhcnhbamaaW.PrintWords Go.Proofs.YteggmbhcnhbamaaW.PrintLast Go.Proofs.YteggmbhcnhbamaaW.PrintMore
open Go.Proofs.Yteggmbhcnhbamaa.Bits
open Go.Proofs.Yteggmbhcnhbamaa.Mt (sdiff bit_sdiff elems mem_elems)

def ints (l : List Nat) : List Int := l.map fun x : Nat => (x : Int)
theorem rd_ints (l : List Nat) (j : Nat) (h : j < l.length) : rd (ints l) (j : Int) = ((l[j]'h : Nat) : Int) := by
  simp [rd, ints, List.getElem?_eq_getElem h]
theorem ints_length (l : List Nat) : (ints l).length = l.length := by simp [ints]
theorem elems_length (s : Nat) : (elems s).length ≤ 8 := by
  have := List.length_filter_le s.testBit (List.range 8); simpa [elems] using this
/-- A number that is a set of eight elements. -/
def isAny (s : Int) : Bool := decide (0 ≤ s ∧ s < 256)

theorem isAny_i (s : Int) : impl_isAny.f s = some (isAny s) := by
  unfold impl_isAny.f isAny
  split <;> simp <;> omega

theorem l1In (x a b : Int) : spec_l1In.f x a b = some (decide (a ≤ x ∧ x ≤ b)) := by
  unfold spec_l1In.f
  split <;> simp <;> omega

theorem IsSet_s (n s : Int) : spec_IsSet.f n s = some (decide (0 ≤ n ∧ n ≤ 8 ∧ 0 ≤ s ∧ s < 2 ^ n.toNat)) := by
  unfold spec_IsSet.f
  simp only [l1In, Option.bind_some, decide_eq_true_eq]
  split
  · rename_i h
    obtain ⟨m, rfl⟩ := Int.eq_ofNat_of_zero_le h.1
    have hm : m ≤ 8 := by omega
    have hp : (2 : Nat) ^ m ≤ 2 ^ 8 := Nat.pow_le_pow_right (by decide) hm
    rw [wrapu_in (by omega) (by omega), shl_one m (by omega), if_pos (by omega)]
    rw [wrap_in (by generalize 2 ^ m = x at hp ⊢; omega) (by generalize 2 ^ m = x at hp ⊢; omega)]
    simp only [Int.toNat_natCast, Option.some.injEq, decide_eq_decide]
    have : (2 : Int) ^ m = ((2 ^ m : Nat) : Int) := by simp
    rw [this]
    generalize 2 ^ m = x at hp ⊢
    omega
  · simp; omega

theorem isSize_i (n : Int) : impl_isSize.f n = some (decide (0 ≤ n ∧ n ≤ 8)) := by
  unfold impl_isSize.f
  split <;> simp <;> omega
theorem IsSet_i (n s : Int) : impl_IsSet.f n s = some (decide (0 ≤ n ∧ n ≤ 8 ∧ 0 ≤ s ∧ s < 2 ^ n.toNat)) := by
  unfold impl_IsSet.f
  rw [isSize_i]
  simp only [Option.bind_some, decide_eq_true_eq]
  by_cases h : 0 ≤ n ∧ n ≤ 8
  · rw [if_pos h]
    by_cases hs : s ≥ 0
    · rw [if_pos hs, if_pos h.1]
      obtain ⟨m, rfl⟩ := Int.eq_ofNat_of_zero_le h.1
      rw [shl_one m (by omega)]
      simp only [Int.toNat_natCast, Option.some.injEq, decide_eq_decide]
      have : (2 : Int) ^ m = ((2 ^ m : Nat) : Int) := by simp
      rw [this]
      generalize 2 ^ m = x
      omega
    · rw [if_neg hs]; simp; omega
  · rw [if_neg h]; simp; omega
theorem HasElement_i (s e : Int) : impl_HasElement.f s e = some (isAny s && decide (0 ≤ e ∧ e < 8) && s.toNat.testBit e.toNat) := by
  unfold impl_HasElement.f
  rw [isAny_i]
  simp only [Option.bind_some]
  cases hs : isAny s
  · simp
  · rw [if_pos rfl]
    have hs' : 0 ≤ s ∧ s < 256 := by simpa [isAny] using hs
    by_cases h0 : e ≥ 0
    · rw [if_pos h0]
      by_cases h8 : e < 8
      · obtain ⟨a, rfl⟩ := Int.eq_ofNat_of_zero_le hs'.1
        obtain ⟨b, rfl⟩ := Int.eq_ofNat_of_zero_le h0
        rw [if_pos h8, if_pos h0, has_bit _ _ (by omega) (by omega)]
        simp; omega
      · rw [if_neg h8]; simp; omega
    · rw [if_neg h0]; simp; omega

/-- The elements of a number: none where it is no set. -/
def elemsI (s : Int) : List Nat := if isAny s then elems s.toNat else []

theorem mem_elemsI {s : Int} {e : Nat} (h : e ∈ elemsI s) : e < 8 := by
  unfold elemsI at h; split at h
  · exact (mem_elems.1 h).1
  · simp at h
theorem elemsI_length (s : Int) : (elemsI s).length ≤ 8 := by
  unfold elemsI; split
  · exact elems_length _
  · simp

theorem elems_loop (s : Int) (L : Nat → List Int → Int → Option (List Int))
    (hL : ∀ k (acc : List Int) (i : Nat), L (k + 1) acc i = if (i : Int) < 8 then (if (isAny s && decide (0 ≤ (i : Int) ∧ (i : Int) < 8) && s.toNat.testBit (i : Int).toNat) = true then (if acc.length < 17592186044416 then L k (acc ++ [(i : Int)]) (wrap64 ((i : Int) + 1)) else none) else L k acc (wrap64 ((i : Int) + 1))) else some acc) :
    ∀ (d i : Nat) (acc : List Int), i + d = 8 → acc.length ≤ i → Ev (fun k => L k acc i) (acc ++ ints ((List.range' i d).filter fun e => isAny s && s.toNat.testBit e))
  | 0, i, acc, hd, _ => by
    obtain rfl : i = 8 := by omega
    refine Ev.succ ?_
    simp only [hL, show ¬ (((8 : Nat) : Int) < 8) by decide, if_false]
    simpa [ints] using Ev.now acc
  | d + 1, i, acc, hd, ha => by
    refine Ev.succ ?_
    have h8 : (i : Int) < 8 := by omega
    have hw : wrap64 ((i : Int) + 1) = ((i + 1 : Nat) : Int) := wrap_in (by omega) (by omega)
    simp only [hL, h8, hw, if_true, Int.toNat_natCast, Int.natCast_nonneg, decide_true, Bool.and_true, and_self]
    rw [List.range'_succ]
    cases hb : (isAny s && s.toNat.testBit i)
    · simp only [hb, List.filter_cons, Bool.false_eq_true, if_false]
      exact elems_loop s L hL d (i + 1) acc (by omega) (by omega)
    · simp only [hb, List.filter_cons, if_true, show acc.length < 17592186044416 by omega]
      have := elems_loop s L hL d (i + 1) (acc ++ [(i : Int)]) (by omega) (by simp; omega)
      simpa [ints] using this

theorem elemsI_eq (s : Int) : (List.range' 0 8).filter (fun e => isAny s && s.toNat.testBit e) = elemsI s := by
  unfold elemsI elems
  rw [List.range_eq_range']
  cases isAny s <;> simp

theorem ElementsOf_i (s : Int) : Ev (fun k => impl_ElementsOf.f k s) (ints (elemsI s)) := by
  have := elems_loop s (fun k acc i => impl_ElementsOf.l0 k s acc i) (fun k acc i => by simp only [impl_ElementsOf.l0, HasElement_i, Option.bind_some]) 8 0 [] rfl (by simp)
  rw [elemsI_eq] at this
  simpa [impl_ElementsOf.f] using this

/-- The element test on any two numbers. -/
def hasI (s : Int) (e : Nat) : Bool := isAny s && decide (e < 8) && s.toNat.testBit e
theorem HasElement_in (s : Int) (e : Nat) : impl_HasElement.f s (e : Int) = some (hasI s e) := by
  rw [HasElement_i]; simp [hasI, show ((e : Int) < 8) ↔ e < 8 by omega]

theorem drop_cons {α : Type} {l r : List α} {i : Nat} {a : α} (h : l.drop i = a :: r) : ∃ hi : i < l.length, l[i] = a ∧ l.drop (i + 1) = r := by
  have hi : i < l.length := by
    rcases Nat.lt_or_ge i l.length with h' | h'
    · exact h'
    · rw [List.drop_eq_nil_of_le h'] at h; cases h
  refine ⟨hi, ?_⟩
  rw [List.drop_eq_getElem_cons hi] at h
  exact ⟨(List.cons.inj h).1, (List.cons.inj h).2⟩

theorem elems_pairwise (s : Nat) : (elems s).Pairwise (· < ·) := List.Pairwise.filter _ List.pairwise_lt_range
theorem elemsI_pairwise (s : Int) : (elemsI s).Pairwise (· < ·) := by
  unfold elemsI; split
  · exact elems_pairwise _
  · exact List.Pairwise.nil

theorem elems_small (s n : Nat) (hn : n ≤ 8) (h : s < 2 ^ n) : elems s = (List.range n).filter s.testBit := by
  unfold elems
  obtain ⟨m, hm⟩ : ∃ m, 8 = n + m := ⟨8 - n, by omega⟩
  rw [hm, List.range_add, List.filter_append]
  have : List.filter s.testBit (List.map (fun x => n + x) (List.range m)) = [] := by
    rw [List.filter_eq_nil_iff]
    intro a ha
    obtain ⟨b, _, rfl⟩ := List.mem_map.1 ha
    rw [Nat.testBit_lt_two_pow (Nat.lt_of_lt_of_le h (Nat.pow_le_pow_right (by decide) (by omega)))]
    simp
  rw [this, List.append_nil]

theorem lt_of_elems (s n : Nat) (hs : s < 256) (h : ∀ e ∈ elems s, e < n) : s < 2 ^ n := by
  apply Nat.lt_pow_two_of_testBit
  intro i hi
  cases hb : s.testBit i
  · rfl
  · have : i < 8 := by
      rcases Nat.lt_or_ge i 8 with h' | h'
      · exact h'
      · rw [Nat.testBit_lt_two_pow (Nat.lt_of_lt_of_le hs (Nat.pow_le_pow_right (n := 2) (by decide) h'))] at hb; cases hb
    have := h i (mem_elems.2 ⟨this, hb⟩)
    omega

theorem or_pow (acc i : Nat) (h : acc < 2 ^ i) : acc ||| 2 ^ i = acc + 2 ^ i := by
  have := Nat.two_pow_add_eq_or_of_lt h 1
  rw [Nat.mul_one] at this
  rw [Nat.or_comm, ← this, Nat.add_comm]

end Go.Proofs.Yteggmbhcnhbamaa.L
