/-
  Packed and unpacked sets, of sets of eight elements: they are the mathematical ones. No condition but that.
-/
import Derived.Test.YtkmcefhchhahhaaLPack
import Derived.Test.YtkmcefhchhahhaaMatMinor
namespace Go.Proofs.Ytkmcefhchhahhaa.L
open Go.RowKit Go.Proofs.Ytkmcefhchhahhaa.F Go.Proofs.YtkmcefhchhahhaaW.PrintWords Go.Proofs.YtkmcefhchhahhaaW.PrintLast Go.Proofs.YtkmcefhchhahhaaW.PrintMore
open Go.Proofs.Ytkmcefhchhahhaa.Bits
open Go.Proofs.Ytkmcefhchhahhaa.Mt (sdiff elems mem_elems pk up bit_pk bit_up cnt elems_sorted)
set_option linter.unusedSimpArgs false
def horn (p : Nat → Bool) : List Nat → Nat
  | [] => 0
  | e :: l => (if p e then 1 else 0) + 2 * horn p l
theorem packL_horn (p : Nat → Bool) : ∀ (l : List Nat) (k : Nat), packL p k l = 2 ^ k * horn p l
  | [], k => by simp [packL, horn]
  | e :: l, k => by
    simp only [packL, horn]
    rw [packL_horn p l (k + 1), Nat.pow_succ, Nat.mul_add, Nat.mul_assoc]
    split <;> simp
theorem bit_horn (p : Nat → Bool) : ∀ (l : List Nat) (i : Nat), (horn p l).testBit i = (decide (i < l.length) && p (l.getD i 0))
  | [], i => by simp [horn]
  | e :: l, 0 => by
    simp only [horn, Nat.testBit_zero, List.length_cons, List.getD_cons_zero]
    cases p e <;> simp <;> omega
  | e :: l, i + 1 => by
    have h : ((if p e then 1 else 0) + 2 * horn p l) / 2 = horn p l := by split <;> omega
    simp only [horn, Nat.testBit_succ, h, bit_horn p l i, List.length_cons, List.getD_cons_succ]
    simp
theorem packI_pk {s K : Nat} (hs : s < 256) (hK : K < 256) : packI (s : Int) (K : Int) = pk K s := by
  unfold packI
  rw [packL_horn, Nat.pow_zero, Nat.one_mul]
  have e : elemsI (K : Int) = elems K := by unfold elemsI; rw [if_pos (by simp [isAny]; omega)]; rfl
  rw [e]
  apply Mt.ext; intro i
  rw [bit_horn, bit_pk]
  by_cases hi : i < (elems K).length
  · have hmem : (elems K).getD i 0 ∈ elems K := by rw [List.getD_eq_getElem?_getD, List.getElem?_eq_getElem hi]; exact List.getElem_mem hi
    have h8 := (mem_elems.1 hmem).1
    unfold hasI
    rw [show isAny ((s : Nat) : Int) = true by simp [isAny]; omega, decide_eq_true h8, Int.toNat_natCast]; simp
  · simp [hi]
theorem unpackL_dvd (p : Nat → Bool) (b : Nat) : ∀ (l : List Nat) (k : Nat), (∀ e ∈ l, b ≤ e) → 2 ^ b ∣ unpackL p k l
  | [], k, _ => by simp [unpackL]
  | e :: l, k, h => by
    simp only [unpackL]
    refine Nat.dvd_add ?_ (unpackL_dvd p b l (k + 1) fun x hx => h x (List.mem_cons_of_mem _ hx))
    split
    · exact Nat.pow_dvd_pow 2 (h e (List.mem_cons_self ..))
    · exact Nat.dvd_zero _
theorem bit_unpackL (p : Nat → Bool) : ∀ (l : List Nat) (k i : Nat), l.Pairwise (· < ·) → (unpackL p k l).testBit i = (l.contains i && p (k + l.idxOf i))
  | [], k, i, _ => by simp [unpackL]
  | e :: l, k, i, h => by
    rw [List.pairwise_cons] at h
    have ih := bit_unpackL p l (k + 1) i h.2
    obtain ⟨m, hm⟩ := unpackL_dvd p (e + 1) l (k + 1) fun x hx => h.1 x hx
    have hb : (unpackL p k (e :: l)).testBit i = ((p k && decide (e = i)) || (unpackL p (k + 1) l).testBit i) := by
      simp only [unpackL]
      cases p k
      · simp
      · simp only [if_true, Bool.true_and]
        have := Nat.two_pow_add_eq_or_of_lt (show 2 ^ e < 2 ^ (e + 1) from Nat.pow_lt_pow_right (by decide) (by omega)) m
        rw [hm, Nat.add_comm, this, Mt.bit_or, Mt.bit_pow, Bool.or_comm]
    rw [hb, ih]
    by_cases c : e = i
    · subst c
      have hn : ¬ e ∈ l := fun hc => by have := h.1 e hc; omega
      simp [hn]
    · have h1 : (e :: l).idxOf i = l.idxOf i + 1 := by
        have c' : (e == i) = false := by rw [beq_eq_false_iff_ne]; exact c
        rw [List.idxOf_cons, c']; rfl
      have h2 : (e :: l).contains i = l.contains i := by
        rw [List.contains_cons]
        have : (i == e) = false := by rw [beq_eq_false_iff_ne]; exact fun h => c h.symm
        rw [this, Bool.false_or]
      rw [h1, h2, decide_eq_false c, Bool.and_false, Bool.false_or, show k + 1 + l.idxOf i = k + (l.idxOf i + 1) by omega]
theorem unpackI_up {t K : Nat} (hK : K < 256) (ht : t < 2 ^ cnt K) : unpackI (t : Int) (K : Int) = up K t := by
  have e : elemsI (K : Int) = elems K := by unfold elemsI; rw [if_pos (by simp [isAny]; omega)]; rfl
  have e2 : (2 : Int) ^ (elems K).length = ((2 ^ (elems K).length : Nat) : Int) := by simp
  unfold unpackI
  rw [e, e2, Mt.elems_length, if_pos ⟨by omega, by omega⟩, Int.toNat_natCast]
  apply Mt.ext; intro i
  rw [bit_unpackL _ _ _ _ (elems_sorted K), bit_up, Nat.zero_add]
  by_cases hm : i ∈ elems K
  · rw [decide_eq_true (mem_elems.1 hm).1, Bool.true_and]
  · simp [hm]
end Go.Proofs.Ytkmcefhchhahhaa.L
