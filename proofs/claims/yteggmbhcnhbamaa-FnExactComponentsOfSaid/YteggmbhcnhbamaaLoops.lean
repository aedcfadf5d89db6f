/-
  Loops as the printer spells them, over no program: what they answer from some number of rounds on. Conditions: as each theorem's premises say.
-/
import Derived.Test.YteggmbhcnhbamaaBits
namespace Go.Proofs.Yteggmbhcnhbamaa.L
open Go.RowKit Go.Proofs.YteggmbhcnhbamaaW.PrintWords Go.Proofs.YteggmbhcnhbamaaW.PrintLast Go.Proofs.YteggmbhcnhbamaaW.PrintMore
open Go.Proofs.Yteggmbhcnhbamaa.Bits

theorem Ev.succ {α : Type} {g : Nat → Option α} {r : α} (h : Ev (fun k => g (k + 1)) r) : Ev g r := Ev.step (fun _ => rfl) h
theorem Ev.some {α : Type} {r s : α} (h : r = s) : Ev (fun _ => Option.some r) s := h ▸ Ev.now r
theorem Ev.uniq {α : Type} {g : Nat → Option α} {r s : α} (h : Ev g r) (k : Ev g s) : r = s := by
  obtain ⟨a, h⟩ := h; obtain ⟨b, k⟩ := k
  have h1 := h (max a b) (Nat.le_max_left _ _); have h2 := k (max a b) (Nat.le_max_right _ _)
  exact Option.some.inj (h1.symm.trans h2)
theorem wrap_succ {i : Nat} (h : i < 9223372036854775807) : wrap64 ((i : Int) + 1) = ((i + 1 : Nat) : Int) := wrap_in (by omega) (by omega)

/-- A loop that ends at the first place at which it has something to say. -/
theorem loop_first {ρ : Type} (L : Nat → Int → Option ρ) (n : Nat) (g : Nat → Option ρ) (last : ρ) (hend : Ev (fun k => L (k + 1) (n : Int)) last)
    (hstep : ∀ i, i < n → (∀ r, g i = Option.some r → Ev (fun k => L (k + 1) (i : Int)) r) ∧ (g i = none → ∀ r, Ev (fun k => L k ((i + 1 : Nat) : Int)) r → Ev (fun k => L (k + 1) (i : Int)) r)) :
    ∀ d i, i + d = n → Ev (fun k => L k (i : Int)) (((List.range' i d).findSome? g).getD last)
  | 0, i, hd => by
    obtain rfl : i = n := by omega
    exact Ev.succ hend
  | d + 1, i, hd => by
    refine Ev.succ ?_
    rw [List.range'_succ, List.findSome?_cons]
    obtain ⟨h1, h2⟩ := hstep i (by omega)
    cases hg : g i with
    | some r => exact h1 r hg
    | none => exact h2 hg _ (loop_first L n g last hend hstep d (i + 1) (by omega))
/-- A loop that asks of all places, and says no at the first that fails. -/
theorem loop_all (L : Nat → Int → Option Bool) (n : Nat) (p : Nat → Bool) (hend : ∀ k, L (k + 1) (n : Int) = some true)
    (hstep : ∀ i, i < n → ∀ k, L (k + 1) (i : Int) = if p i = true then L k ((i + 1 : Nat) : Int) else some false) :
    ∀ d i, i + d = n → Ev (fun k => L k (i : Int)) ((List.range' i d).all p)
  | 0, i, hd => by
    obtain rfl : i = n := by omega
    refine Ev.succ ?_
    simp only [hend]; exact Ev.now _
  | d + 1, i, hd => by
    refine Ev.succ ?_
    rw [List.range'_succ, List.all_cons]
    simp only [hstep i (by omega)]
    cases hp : p i
    · simp only [Bool.false_eq_true, if_false, Bool.false_and]; exact Ev.now _
    · simp only [if_true, Bool.true_and]; exact loop_all L n p hend hstep d (i + 1) (by omega)
theorem loop_all0 (L : Nat → Int → Option Bool) (n : Nat) (p : Nat → Bool) (hend : ∀ k, L (k + 1) (n : Int) = some true)
    (hstep : ∀ i, i < n → ∀ k, L (k + 1) (i : Int) = if p i = true then L k ((i + 1 : Nat) : Int) else some false) :
    Ev (fun k => L k 0) ((List.range n).all p) := by
  rw [List.range_eq_range']; exact loop_all L n p hend hstep n 0 (by omega)
/-- A loop that gathers: at each place the state takes a step; an invariant goes along. -/
theorem loop_fold {σ ρ : Type} (L : Nat → σ → Int → Option ρ) (n : Nat) (step : σ → Nat → σ) (inv : Nat → σ → Prop) (fin : σ → ρ)
    (hend : ∀ s, inv n s → Ev (fun k => L (k + 1) s (n : Int)) (fin s))
    (hstep : ∀ i s, i < n → inv i s → inv (i + 1) (step s i) ∧ ∀ r, Ev (fun k => L k (step s i) ((i + 1 : Nat) : Int)) r → Ev (fun k => L (k + 1) s (i : Int)) r) :
    ∀ d i s, i + d = n → inv i s → Ev (fun k => L k s (i : Int)) (fin ((List.range' i d).foldl step s))
  | 0, i, s, hd, hi => by
    obtain rfl : i = n := by omega
    exact Ev.succ (hend s hi)
  | d + 1, i, s, hd, hi => by
    refine Ev.succ ?_
    obtain ⟨h1, h2⟩ := hstep i s (by omega) hi
    exact h2 _ (loop_fold L n step inv fin hend hstep d (i + 1) (step s i) (by omega) h1)
theorem loop_fold0 {σ ρ : Type} (L : Nat → σ → Int → Option ρ) (n : Nat) (step : σ → Nat → σ) (inv : Nat → σ → Prop) (fin : σ → ρ)
    (hend : ∀ s, inv n s → Ev (fun k => L (k + 1) s (n : Int)) (fin s))
    (hstep : ∀ i s, i < n → inv i s → inv (i + 1) (step s i) ∧ ∀ r, Ev (fun k => L k (step s i) ((i + 1 : Nat) : Int)) r → Ev (fun k => L (k + 1) s (i : Int)) r) (s : σ) (h : inv 0 s) :
    Ev (fun k => L k s 0) (fin ((List.range n).foldl step s)) := by
  rw [List.range_eq_range']; exact loop_fold L n step inv fin hend hstep n 0 s (by omega) h

/-- A loop that gathers, and what stands behind it. -/
theorem loop_reach {σ ρ : Type} (L : Nat → σ → Int → Option ρ) (n : Nat) (step : σ → Nat → σ) (inv : Nat → σ → Prop)
    (hstep : ∀ i s, i < n → inv i s → inv (i + 1) (step s i) ∧ ∀ r, Ev (fun k => L k (step s i) ((i + 1 : Nat) : Int)) r → Ev (fun k => L (k + 1) s (i : Int)) r) (s : σ) (h : inv 0 s) :
    inv n ((List.range n).foldl step s) ∧ ∀ r, Ev (fun k => L k ((List.range n).foldl step s) (n : Int)) r → Ev (fun k => L k s 0) r := by
  have key : ∀ d i s, i + d = n → inv i s → inv n ((List.range' i d).foldl step s) ∧ ∀ r, Ev (fun k => L k ((List.range' i d).foldl step s) (n : Int)) r → Ev (fun k => L k s (i : Int)) r := by
    intro d
    induction d with
    | zero => intro i s hd hi; obtain rfl : i = n := by omega
              exact ⟨hi, fun r h => h⟩
    | succ d ih =>
      intro i s hd hi
      obtain ⟨h1, h2⟩ := hstep i s (by omega) hi
      obtain ⟨h3, h4⟩ := ih (i + 1) (step s i) (by omega) h1
      rw [List.range'_succ, List.foldl_cons]
      exact ⟨h3, fun r h => Ev.succ (h2 r (h4 r h))⟩
  rw [List.range_eq_range']
  exact key n 0 s (by omega) h
theorem loop_first0 {ρ : Type} (L : Nat → Int → Option ρ) (n : Nat) (g : Nat → Option ρ) (last : ρ) (hend : Ev (fun k => L (k + 1) (n : Int)) last)
    (hstep : ∀ i, i < n → (∀ r, g i = Option.some r → Ev (fun k => L (k + 1) (i : Int)) r) ∧ (g i = none → ∀ r, Ev (fun k => L k ((i + 1 : Nat) : Int)) r → Ev (fun k => L (k + 1) (i : Int)) r)) :
    Ev (fun k => L k 0) (((List.range n).findSome? g).getD last) := by
  rw [List.range_eq_range']; exact loop_first L n g last hend hstep n 0 (by omega)
/-- A loop from its end back: what a place makes of the answer of what follows. -/
theorem loop_back {ρ : Type} (L : Nat → Int → Option ρ) (n : Nat) (f : Nat → ρ → ρ) (last : ρ) (hend : Ev (fun k => L (k + 1) (n : Int)) last)
    (hstep : ∀ i, i < n → ∀ r, Ev (fun k => L k ((i + 1 : Nat) : Int)) r → Ev (fun k => L (k + 1) (i : Int)) (f i r)) : Ev (fun k => L k 0) ((List.range n).foldr f last) := by
  have key : ∀ d i, i + d = n → Ev (fun k => L k (i : Int)) ((List.range' i d).foldr f last) := by
    intro d
    induction d with
    | zero => intro i hd; obtain rfl : i = n := by omega
              exact Ev.succ hend
    | succ d ih =>
      intro i hd
      rw [List.range'_succ, List.foldr_cons]
      exact Ev.succ (hstep i (by omega) _ (ih (i + 1) (by omega)))
  rw [List.range_eq_range']
  exact key n 0 (by omega)
theorem foldr_all {α : Type} (p : α → Bool) (r : Bool) : ∀ l : List α, l.foldr (fun i r => p i && r) r = (l.all p && r)
  | [] => by simp
  | a :: l => by rw [List.foldr_cons, List.all_cons, foldr_all p r l, Bool.and_assoc]
theorem foldr_any {α : Type} (p : α → Bool) (r : Bool) : ∀ l : List α, l.foldr (fun i r => p i || r) r = (l.any p || r)
  | [] => by simp
  | a :: l => by rw [List.foldr_cons, List.any_cons, foldr_any p r l, Bool.or_assoc]
theorem rd_get (l : List Int) (j : Nat) (h : j < l.length) : rd l (j : Int) = l[j]'h := by simp [rd, List.getElem?_eq_getElem h]
theorem rd_getD (l : List Int) (j : Nat) : rd l (j : Int) = l.getD j 0 := by simp [rd]
theorem range_all_get {α : Type} (l : List α) (d : α) (p : α → Bool) : (List.range l.length).all (fun i => p (l.getD i d)) = l.all p := by
  rw [Bool.eq_iff_iff, List.all_eq_true, List.all_eq_true]
  constructor
  · intro h x hx
    obtain ⟨i, hi, rfl⟩ := List.getElem_of_mem hx
    have := h i (by simpa using hi)
    simpa [List.getElem?_eq_getElem hi] using this
  · intro h i hi
    have hi : i < l.length := by simpa using hi
    have := h l[i] (List.getElem_mem hi)
    simpa [List.getElem?_eq_getElem hi] using this
end Go.Proofs.Yteggmbhcnhbamaa.L
