/-
  The sets of a list, sorted, each once: of program and reference the same. Condition: sets of eight elements, lists of less than 2^44.
-/
import Derived.Test.YteggmbhcnhbamaaFx1
import Derived.Test.YteggmbhcnhbamaaLSort
import Derived.Test.YteggmbhcnhbamaaLRank
namespace Go.Proofs.Yteggmbhcnhbamaa.L
open Go.RowKit Go.Proofs.Yteggmbhcnhbamaa.F Go.Proofs.YteggmbhcnhbamaaW.PrintWords Go.Proofs.YteggmbhcnhbamaaW.PrintLast Go.Proofs.YteggmbhcnhbamaaW.PrintMore
open Go.Proofs.Yteggmbhcnhbamaa.Bits
open Go.Proofs.Yteggmbhcnhbamaa.Mt (sortI sortI_of sortI_sorted mem_sortI sortI_len)
set_option linter.unusedSimpArgs false
set_option linter.unusedVariables false
/-- The sets of a list, in order, each once. -/
def sortN (L : List Nat) : List Nat := (List.range 256).filter fun s => decide (s ∈ L)
theorem ints_sorted {L : List Nat} (h : L.Pairwise (· < ·)) : (ints L).Pairwise (· < ·) := by
  unfold ints
  rw [List.pairwise_map]
  exact h.imp fun h => by omega
theorem in_ints {L : List Nat} {x : Int} : x ∈ ints L ↔ ∃ n, n ∈ L ∧ (n : Int) = x := by simp [ints]
theorem range_sorted (p : Nat → Bool) (n : Nat) : ((List.range n).filter p).Pairwise (· < ·) := List.Pairwise.filter _ List.pairwise_lt_range
theorem mem_sortN {L : List Nat} (hL : ∀ x ∈ L, x < 256) {s : Nat} : s ∈ sortN L ↔ s ∈ L := by
  unfold sortN
  rw [List.mem_filter, List.mem_range, decide_eq_true_eq]
  exact ⟨fun h => h.2, fun h => ⟨hL s h, h⟩⟩
theorem sortN_sorted (L : List Nat) : (sortN L).Pairwise (· < ·) := range_sorted _ _
theorem sortN_len (L : List Nat) : (sortN L).length ≤ 256 := by
  have := List.length_filter_le (fun s => decide (s ∈ L)) (List.range 256)
  rwa [List.length_range] at this
theorem sortI_ints {L : List Nat} (hL : ∀ x ∈ L, x < 256) : sortI (ints L) = ints (sortN L) := sortI_of (ints_sorted (sortN_sorted L)) fun x => by
  rw [in_ints, in_ints]
  exact ⟨fun ⟨n, h, e⟩ => ⟨n, (mem_sortN hL).1 h, e⟩, fun ⟨n, h, e⟩ => ⟨n, (mem_sortN hL).2 h, e⟩⟩
theorem sorted_extN : ∀ {l l' : List Nat}, l.Pairwise (· < ·) → l'.Pairwise (· < ·) → (∀ x, x ∈ l ↔ x ∈ l') → l = l'
  | [], [], _, _, _ => rfl
  | [], b :: _, _, _, hm => absurd ((hm b).2 (List.mem_cons_self ..)) (by simp)
  | a :: _, [], _, _, hm => absurd ((hm a).1 (List.mem_cons_self ..)) (by simp)
  | a :: l, b :: l', h, h', hm => by
    rw [List.pairwise_cons] at h h'
    have hab : a = b := by
      rcases List.mem_cons.1 ((hm a).1 (List.mem_cons_self ..)) with e | e
      · exact e
      · rcases List.mem_cons.1 ((hm b).2 (List.mem_cons_self ..)) with e' | e'
        · exact e'.symm
        · have := h'.1 a e; have := h.1 b e'; omega
    subst hab
    rw [sorted_extN h.2 h'.2 fun x => ⟨fun hx => by
      rcases List.mem_cons.1 ((hm x).1 (List.mem_cons_of_mem _ hx)) with e | e
      · subst e; have := h.1 x hx; omega
      · exact e, fun hx => by
      rcases List.mem_cons.1 ((hm x).2 (List.mem_cons_of_mem _ hx)) with e | e
      · subst e; have := h'.1 x hx; omega
      · exact e⟩]
/-- A sorted family is its own sorting. -/
theorem sortN_id {L : List Nat} (hL : ∀ x ∈ L, x < 256) (h : L.Pairwise (· < ·)) : sortN L = L := sorted_extN (sortN_sorted L) h fun _ => mem_sortN hL
theorem sorted_len {L : List Nat} (hL : ∀ x ∈ L, x < 256) (h : L.Pairwise (· < ·)) : L.length ≤ 256 := by rw [← sortN_id hL h]; exact sortN_len L
theorem ins_facts (s : List Int) (x : Int) (j : Nat) (h : s.Pairwise (· < ·)) (h1 : ∀ a ∈ s.take j, a < x) (h2 : ∀ a ∈ s.drop j, x < a) :
    (s.take j ++ [x] ++ s.drop j).Pairwise (· < ·) ∧ ∀ a, a ∈ s.take j ++ [x] ++ s.drop j ↔ a = x ∨ a ∈ s := by
  have e : s.take j ++ s.drop j = s := List.take_append_drop j s
  have hp : (s.take j ++ s.drop j).Pairwise (· < ·) := by rw [e]; exact h
  rw [List.pairwise_append] at hp
  constructor
  · rw [List.pairwise_append, List.pairwise_append]
    refine ⟨⟨hp.1, by simp, fun a ha b hb => ?_⟩, hp.2.1, fun a ha b hb => ?_⟩
    · simp only [List.mem_singleton] at hb; subst hb; exact h1 a ha
    · rcases List.mem_append.1 ha with ha | ha
      · exact hp.2.2 a ha b hb
      · simp only [List.mem_singleton] at ha; subst ha; exact h2 b hb
  · intro a
    have hm : a ∈ s ↔ a ∈ s.take j ∨ a ∈ s.drop j := by
      have := List.mem_append (a := a) (s := s.take j) (t := s.drop j)
      rwa [e] at this
    rw [hm]
    simp only [List.mem_append, List.mem_singleton]
    constructor
    · rintro ((h | h) | h)
      · exact .inr (.inl h)
      · exact .inl h
      · exact .inr (.inr h)
    · rintro (h | h | h)
      · exact .inl (.inr h)
      · exact .inl (.inl h)
      · exact .inr h
theorem sort_inner (l s : List Int) (i : Nat) (hi : i < l.length) (hl : l.length < 17592186044416) (hs : s.Pairwise (· < ·)) (hlen : s.length ≤ i) (r : List Int)
    (hcont : ∀ s' : List Int, s'.Pairwise (· < ·) → (∀ a, a ∈ s' ↔ a = l.getD i 0 ∨ a ∈ s) → s'.length ≤ i + 1 → Ev (fun k => spec_SortSets.l0 k l s' ((i + 1 : Nat) : Int)) r) :
    ∀ (d j : Nat), j + d = s.length → (∀ a ∈ s.take j, a < l.getD i 0) → Ev (fun k => spec_SortSets.l1 k l s (i : Int) (j : Int)) r
  | 0, j, hd, h1 => by
    have hj : j = s.length := by omega
    subst hj
    have hf := ins_facts s (l.getD i 0) s.length hs h1 (by simp)
    have hl1 := hcont _ hf.1 hf.2 (by simp; omega)
    refine Ev.succ ?_
    simp only [spec_SortSets.l1, show ¬ ((s.length : Int) < (s.length : Int)) by omega, if_false, Option.bind_some, show (0 : Int) ≤ (s.length : Int) by omega, show (s.length : Int) ≤ (s.length : Int) by omega, if_true, Int.toNat_natCast,
      show (0 : Int) ≤ (i : Int) by omega, show (i : Int) < (l.length : Int) by omega, rd_getD, List.nil_append, List.length_nil, Nat.zero_add, wrap_succ (show i < 9223372036854775807 by omega)]
    simp only [show (s.drop s.length).length < 17592186044416 by simp, show (s.take s.length).length < 17592186044416 by simp; omega, if_true,
      show (s.take s.length ++ [l.getD i 0]).length + (s.drop s.length).length < 17592186044416 by simp; omega]
    exact hl1
  | d + 1, j, hd, h1 => by
    have hj : j < s.length := by omega
    have e1 : s.getD j 0 = s[j] := by simp [List.getElem?_eq_getElem hj]
    refine Ev.succ ?_
    simp only [spec_SortSets.l1, show ((j : Int) < (s.length : Int)) by omega, if_true, show (0 : Int) ≤ (j : Int) by omega, show (0 : Int) ≤ (i : Int) by omega, show (i : Int) < (l.length : Int) by omega, rd_getD,
      wrap_succ (show i < 9223372036854775807 by omega), wrap_succ (show j < 9223372036854775807 by omega)]
    by_cases c : s.getD j 0 < l.getD i 0
    · simp only [c, if_true]
      refine sort_inner l s i hi hl hs hlen r hcont d (j + 1) (by omega) fun a ha => ?_
      rw [List.take_succ_eq_append_getElem hj, List.mem_append] at ha
      rcases ha with ha | ha
      · exact h1 a ha
      · simp only [List.mem_singleton] at ha; subst ha; rw [← e1]; exact c
    · simp only [c, if_false]
      by_cases c2 : s.getD j 0 = l.getD i 0
      · simp only [c2, if_true]
        refine hcont s hs (fun a => ⟨.inr, fun h => ?_⟩) (by omega)
        rcases h with h | h
        · rw [h, ← c2, e1]; exact List.getElem_mem hj
        · exact h
      · simp only [c2, if_false]
        have h2 : ∀ a ∈ s.drop j, l.getD i 0 < a := fun a ha => by
          rw [List.drop_eq_getElem_cons hj] at ha
          rcases List.mem_cons.1 ha with ha | ha
          · subst ha; rw [e1] at c c2; omega
          · have hp : (s.drop j).Pairwise (· < ·) := List.Pairwise.drop hs
            rw [List.drop_eq_getElem_cons hj, List.pairwise_cons] at hp
            have := hp.1 a ha
            rw [e1] at c c2; omega
        have hf := ins_facts s (l.getD i 0) j hs h1 h2
        have hl1 := hcont _ hf.1 hf.2 (by simp; omega)
        simp only [Option.bind_some, show (j : Int) ≤ (s.length : Int) by omega, if_true, Int.toNat_natCast, List.nil_append, List.length_nil, Nat.zero_add]
        simp only [show (s.drop j).length < 17592186044416 by simp; omega, show (s.take j).length < 17592186044416 by simp; omega, if_true,
          show (s.take j ++ [l.getD i 0]).length + (s.drop j).length < 17592186044416 by simp; omega]
        exact hl1
theorem sort_outer (l : List Int) (hl : l.length < 17592186044416) : ∀ (d i : Nat) (s : List Int), i + d = l.length → s.Pairwise (· < ·) → (∀ a, a ∈ s ↔ a ∈ l.take i) → s.length ≤ i → Ev (fun k => spec_SortSets.l0 k l s (i : Int)) (sortI l)
  | 0, i, s, hd, hs, hm, _ => by
    have hi : i = l.length := by omega
    subst hi
    rw [List.take_length] at hm
    refine Ev.succ ?_
    simp only [spec_SortSets.l0, show ¬ ((l.length : Int) < (l.length : Int)) by omega, if_false]
    exact Ev.some (sortI_of hs hm).symm
  | d + 1, i, s, hd, hs, hm, hlen => by
    have hi : i < l.length := by omega
    refine Ev.succ ?_
    simp only [spec_SortSets.l0, show ((i : Int) < (l.length : Int)) by omega, if_true]
    refine sort_inner l s i hi hl hs hlen _ (fun s' h1 h2 h3 => ?_) s.length 0 (by omega) (by simp)
    refine sort_outer l hl d (i + 1) s' (by omega) h1 (fun a => ?_) h3
    rw [h2, hm, List.take_succ_eq_append_getElem hi, List.mem_append, List.mem_singleton, show l.getD i 0 = l[i] by simp [List.getElem?_eq_getElem hi]]
    exact ⟨fun h => h.elim .inr .inl, fun h => h.elim .inr .inl⟩
theorem SortSets_sI (l : List Int) (hl : l.length < 17592186044416) : Ev (fun k => spec_SortSets.f k l) (sortI l) := by
  unfold spec_SortSets.f
  exact sort_outer l hl l.length 0 [] (by omega) (by simp) (by simp) (by simp)
theorem SortSets_s {L : List Nat} (hL : ∀ x ∈ L, x < 256) (hl : L.length < 17592186044416) : Ev (fun k => spec_SortSets.f k (ints L)) (ints (sortN L)) := by
  rw [← sortI_ints hL]; exact SortSets_sI _ (by rw [ints_length]; exact hl)
end Go.Proofs.Yteggmbhcnhbamaa.L
