/-
  The matrix of a graph over the field of two: of the program and of the reference the same. Condition: lists of at most 2^44 elements.
-/
import Derived.Test.YtopkfhnnapncgaaFx17
import Derived.Test.YtopkfhnnapncgaaLGraph
import Derived.Test.YtopkfhnnapncgaaLCell
namespace Go.Proofs.Ytopkfhnnapncgaa.L
open Go.RowKit Go.Proofs.Ytopkfhnnapncgaa.F Go.Proofs.YtopkfhnnapncgaaW.PrintWords Go.Proofs.YtopkfhnnapncgaaW.PrintLast Go.Proofs.YtopkfhnnapncgaaW.PrintMore
open Go.Proofs.Ytopkfhnnapncgaa.Bits
set_option linter.unusedSimpArgs false
set_option linter.unusedVariables false
/-- Row i, column j: is i one end, and one alone, of edge j? -/
def inCell (F T : List Int) (i j : Nat) : Int := if (F.getD j 0 = (i : Int)) ≠ (T.getD j 0 = (i : Int)) then 1 else 0
/-- The first n cells, row by row. -/
def incL (F T : List Int) (n : Nat) : List Int := (List.range n).map fun m => inCell F T (m / F.length) (m % F.length)
theorem incL_length (F T : List Int) (n : Nat) : (incL F T n).length = n := by simp [incL]
theorem incL_succ (F T : List Int) {i j : Nat} (hj : j < F.length) : incL F T (i * F.length + (j + 1)) = incL F T (i * F.length + j) ++ [inCell F T i j] := by
  have h1 : (i * F.length + j) / F.length = i := by rw [Nat.mul_comm, Nat.mul_add_div (by omega), Nat.div_eq_of_lt hj]; rfl
  have h2 : (i * F.length + j) % F.length = j := by rw [Nat.mul_comm, Nat.mul_add_mod, Nat.mod_eq_of_lt hj]
  unfold incL
  rw [← Nat.add_assoc, List.range_succ, List.map_append, List.map_singleton, h1, h2]
def incM (v : Int) (F T : List Int) : Int × Int × Int × List Int × Bool :=
  if isGraph v F T = true then (2, v, (F.length : Int), incL F T (v.toNat * F.length), true) else (0, 0, 0, [], false)
section
variable {V : Nat} {F T : List Int}
theorem bit_s (b : Bool) : spec_l1Bit.f b = some (if b = true then 1 else 0) := by unfold spec_l1Bit.f; cases b <;> rfl
theorem inc_s (hV : V ≤ 6) (hF : F.length ≤ 8) (hFT : F.length = T.length) :
    Ev (fun k => spec_IncidenceMatrix.l0 k 0 V F T 2 V (F.length : Int) []) (2, (V : Int), (F.length : Int), incL F T (V * F.length), true) := by
  have key := loop_reach (fun k acc i => spec_IncidenceMatrix.l0 k i V F T 2 V (F.length : Int) acc) V (fun _ i => incL F T ((i + 1) * F.length)) (fun i acc => acc = incL F T (i * F.length))
    (fun i acc hi ha => ⟨rfl, fun r hr => by
      simp only [spec_IncidenceMatrix.l0, show ((i : Int) < (V : Int)) by omega, if_true]
      have k2 := loop_reach (fun k acc j => spec_IncidenceMatrix.l1 k i j V F T 2 V (F.length : Int) acc) F.length (fun acc j => acc ++ [inCell F T i j]) (fun j acc => acc = incL F T (i * F.length + j))
        (fun j acc hj ha => ⟨by rw [ha, incL_succ F T hj], fun r hr => by
          have hl : acc.length < 17592186044416 := by
            have : i * F.length ≤ 6 * 8 := Nat.mul_le_mul (by omega) hF
            rw [ha, incL_length]; omega
          simp only [spec_IncidenceMatrix.l1, show ((j : Int) < (F.length : Int)) by omega, show ((j : Int) < (T.length : Int)) by omega, show (0 : Int) ≤ (j : Int) by omega, hl, if_true, rd_getD, bit_s, Option.bind_some, wrap_succ (show j < 9223372036854775807 by omega)]
          have e : (if ((F.getD j 0 == (i : Int)) != (T.getD j 0 == (i : Int))) = true then (1 : Int) else 0) = inCell F T i j := by
            unfold inCell
            generalize F.getD j 0 = x
            generalize T.getD j 0 = y
            by_cases h1 : x = (i : Int) <;> by_cases h2 : y = (i : Int) <;> simp [h1, h2, beq_eq_false_iff_ne.2]
          rw [e]; exact hr⟩) acc (by rw [ha]; rfl)
      refine k2.2 _ (Ev.succ ?_)
      rw [k2.1]
      simp only [spec_IncidenceMatrix.l1, show ¬ ((F.length : Int) < (F.length : Int)) by omega, if_false, wrap_succ (show i < 9223372036854775807 by omega)]
      rw [← Nat.succ_mul]; exact hr⟩) [] (by simp [incL])
  refine key.2 _ (Ev.succ ?_)
  rw [key.1]
  simp only [spec_IncidenceMatrix.l0, show ¬ ((V : Int) < (V : Int)) by omega, if_false]
  exact Ev.now _
/-- The cells of the first j columns; what is right of them is naught. -/
def incP (V : Nat) (F T : List Int) (j : Nat) : List Int := (List.range (V * F.length)).map fun m => if m % F.length < j then inCell F T (m / F.length) (m % F.length) else 0
theorem incP_length (V : Nat) (F T : List Int) (j : Nat) : (incP V F T j).length = V * F.length := by simp [incP]
theorem place {C n a j : Nat} (hj : j < C) (hm : n % C = j) : (n = a * C + j) ↔ (a = n / C) := by
  constructor
  · intro h; rw [h, Nat.mul_comm, Nat.mul_add_div (by omega), Nat.div_eq_of_lt hj]; rfl
  · intro h; rw [h, ← hm, Nat.mul_comm]; exact (Nat.div_add_mod n C).symm
theorem incP_step (hFT : F.length = T.length) (j a b : Nat) (hj : j < F.length) (ha : F.getD j 0 = a) (hb : T.getD j 0 = b) :
    incP V F T (j + 1) = if (a : Int) = (b : Int) then incP V F T j else ((incP V F T j).set (a * F.length + j) 1).set (b * F.length + j) 1 := by
  apply List.ext_getElem (by split <;> simp [incP_length])
  intro n h1 h2
  rw [incP_length] at h1
  have hpos : 0 < F.length := by omega
  have hmod : n % F.length < F.length := Nat.mod_lt _ hpos
  by_cases hm : n % F.length = j
  · have pa := place (a := a) hj hm
    have pb := place (a := b) hj hm
    by_cases hab : (a : Int) = (b : Int)
    · have : a = b := by omega
      subst this
      simp only [hab, if_true, incP, List.getElem_map, List.getElem_range, hm, Nat.lt_irrefl, if_false, show j < j + 1 by omega, inCell, ha, hb, ne_eq, not_true_eq_false]
    · simp only [hab, if_false, List.getElem_set, incP, List.getElem_map, List.getElem_range, hm, Nat.lt_irrefl, show j < j + 1 by omega, if_true]
      have pa' : (a * F.length + j = n) = (a = n / F.length) := propext ⟨fun h => pa.1 h.symm, fun h => (pa.2 h).symm⟩
      have pb' : (b * F.length + j = n) = (b = n / F.length) := propext ⟨fun h => pb.1 h.symm, fun h => (pb.2 h).symm⟩
      simp only [pa', pb', inCell, ha, hb]
      generalize n / F.length = m
      have hab' : ¬ a = b := fun h => hab (by rw [h])
      by_cases ea : a = m
      · by_cases eb : b = m
        · exact absurd (ea.trans eb.symm) hab'
        · simp [ea, eb, show ¬ ((b : Int) = (m : Int)) by omega]
      · by_cases eb : b = m
        · simp [ea, eb, show ¬ ((a : Int) = (m : Int)) by omega]
        · simp [ea, eb, show ¬ ((b : Int) = (m : Int)) by omega, show ¬ ((a : Int) = (m : Int)) by omega]
  · have hne : ∀ a, ¬ (a * F.length + j = n) := fun a h => hm (by rw [← h, Nat.mul_comm, Nat.mul_add_mod, Nat.mod_eq_of_lt hj])
    have e1 : (n % F.length < j + 1) = (n % F.length < j) := by apply propext; omega
    split
    · simp only [incP, List.getElem_map, List.getElem_range, e1]
    · simp only [incP, List.getElem_map, List.getElem_range, e1, List.getElem_set, hne, if_false]
theorem inc_i (hV : V ≤ 6) (hF : F.length ≤ 8) (hFT : F.length = T.length) (h : ∀ i, i < F.length → (0 ≤ F.getD i 0 ∧ F.getD i 0 < V ∧ 0 ≤ T.getD i 0 ∧ T.getD i 0 < V)) :
    Ev (fun k => impl_IncidenceMatrix.l0 k (F.length : Int) 0 V F T 2 V (F.length : Int) (List.replicate (V * F.length) 0)) (2, (V : Int), (F.length : Int), incL F T (V * F.length), true) := by
  have key := loop_reach (fun k l j => impl_IncidenceMatrix.l0 k (F.length : Int) j V F T 2 V (F.length : Int) l) F.length (fun _ j => incP V F T (j + 1)) (fun j l => l = incP V F T j)
    (fun j l hj hl => ⟨rfl, fun r hr => by
      obtain ⟨h1, h2, h3, h4⟩ := h j hj
      obtain ⟨a, ha⟩ := Int.eq_ofNat_of_zero_le h1
      obtain ⟨b, hb⟩ := Int.eq_ofNat_of_zero_le h3
      have ca : a * F.length + j < l.length := cell_in (R := V) (by rw [hl, incP_length]) (by omega) hj
      have cb : b * F.length + j < l.length := cell_in (R := V) (by rw [hl, incP_length]) (by omega) hj
      rw [incP_step hFT j a b hj ha hb, ← hl] at hr
      simp only [impl_IncidenceMatrix.l0, show ((j : Int) < (F.length : Int)) by omega, show ((j : Int) < (T.length : Int)) by omega, show (0 : Int) ≤ (j : Int) by omega, if_true, rd_getD, ha, hb, wrap_succ (show j < 9223372036854775807 by omega),
        cell_index (show a ≤ 8 by omega) hF (show j ≤ 8 by omega), cell_index (show b ≤ 8 by omega) hF (show j ≤ 8 by omega), show (0 : Int) ≤ ((a * F.length + j : Nat) : Int) by omega, show (0 : Int) ≤ ((b * F.length + j : Nat) : Int) by omega,
        show ((a * F.length + j : Nat) : Int) < (l.length : Int) by omega, show ((b * F.length + j : Nat) : Int) < (l.length : Int) by omega, Int.toNat_natCast]
      by_cases hab : (a : Int) = (b : Int)
      · simp only [hab, if_true] at hr ⊢; exact hr
      · simp only [hab, if_false] at hr ⊢; exact hr⟩) (List.replicate (V * F.length) 0) (by
        apply List.ext_getElem (by simp [incP_length])
        intro n h1 h2
        simp [incP])
  refine key.2 _ (Ev.succ ?_)
  rw [key.1]
  simp only [impl_IncidenceMatrix.l0, show ¬ ((F.length : Int) < (F.length : Int)) by omega, if_false]
  refine Ev.some ?_
  have : incP V F T F.length = incL F T (V * F.length) := by
    apply List.ext_getElem (by simp [incP_length, incL_length])
    intro n h1 h2
    rw [incP_length] at h1
    have hpos : 0 < F.length := by
      cases hF0 : F.length with
      | zero => rw [hF0] at h1; simp at h1
      | succ m => omega
    simp [incP, incL, Nat.mod_lt n hpos]
  rw [this]
end
theorem Incidence_s (v : Int) (F T : List Int) : Ev (fun k => spec_IncidenceMatrix.f k v F T) (incM v F T) := by
  unfold spec_IncidenceMatrix.f incM
  refine Ev.bind (IsGraph_s v F T) ?_
  cases hg : isGraph v F T
  · simp only [Bool.false_eq_true, if_false]; exact Ev.now _
  obtain ⟨V, rfl, hV, hF, hFT, hin⟩ := graph_parts hg
  simp only [if_true, Int.toNat_natCast]
  exact inc_s hV hF hFT
theorem Incidence_i (v : Int) (F T : List Int) : Ev (fun k => impl_IncidenceMatrix.f k v F T) (incM v F T) := by
  unfold impl_IncidenceMatrix.f incM
  refine Ev.bind (IsGraph_i v F T) ?_
  cases hg : isGraph v F T
  · simp only [Bool.false_eq_true, if_false]; exact Ev.now _
  obtain ⟨V, rfl, hV, hF, hFT, hin⟩ := graph_parts hg
  have hb : V * F.length ≤ 6 * 8 := Nat.mul_le_mul hV hF
  have e : wrap64 ((V : Int) * (F.length : Int)) = ((V * F.length : Nat) : Int) := by
    have e : (V : Int) * (F.length : Int) = ((V * F.length : Nat) : Int) := by simp
    rw [e]; exact wrap_in (by omega) (by omega)
  simp only [if_true, Int.toNat_natCast, e, show (0 : Int) ≤ ((V * F.length : Nat) : Int) by omega, show V * F.length ≤ 35184372088832 by omega]
  exact inc_i hV hF hFT hin
theorem incM_length (v : Int) (F T : List Int) : (incM v F T).2.2.2.1.length ≤ 17592186044416 := by
  unfold incM
  split
  · rename_i hg
    obtain ⟨V, rfl, hV, hF, hFT, hin⟩ := graph_parts hg
    have hb : V * F.length ≤ 6 * 8 := Nat.mul_le_mul hV hF
    simp only [incL_length, Int.toNat_natCast]; omega
  · simp
end Go.Proofs.Ytopkfhnnapncgaa.L
