/-
  What a walk of FirstFailure keeps: the two variables in memory, the list, and all that lay. No condition.
-/
import Derived.Test.YteggmbhcnhbamaaFx0
namespace Go.Proofs.Yteggmbhcnhbamaa.F
open Go.RowKit Go.Proofs.YteggmbhcnhbamaaW.PrintWords Go.Proofs.YteggmbhcnhbamaaW.PrintLast Go.Proofs.YteggmbhcnhbamaaW.PrintMore
/-- What stays as it is while the loops run: the two variables in memory, the list, and all that lay. -/
structure FFS (w0 w' : World) (gm gr : Nat) (n : Int) (A : Option Addr) (c : Nat) (l : List Int) : Prop where
  m : w'.heap[gm]? = some (.cells #[.int .i64 n, .slice A l.length c] 27 (0, 0))
  r : w'.heap[gr]? = some (.cells #[.int .i64 0, .int .i64 0, .int .i64 0] 50 (0, 0))
  C : Kd.C (Kd.int .i64) w' A l.length l
  B : Below w0.heap.size w0 w'
theorem FFS.below {w0 w1 w2 : World} {gm gr : Nat} {n : Int} {A : Option Addr} {c : Nat} {l : List Int} (h : FFS w0 w1 gm gr n A c l) (k : Below w1.heap.size w1 w2) : FFS w0 w2 gm gr n A c l :=
  ⟨blk_below h.m k, blk_below h.r k, Kd.C_below h.C k, below_step h.B k⟩
/-- A new variable in memory, and the value put into it. -/
theorem box_put {w w1 : World} {g : Nat} {t : TypeId} {u v : Value} (hg : g = w.heap.size) (hbox : w1.heap[g]? = some (.cells #[u] t (0, 0))) (hb : Below w.heap.size w w1) :
    (w1.setCell ⟨g, 0, none⟩ v).heap[g]? = some (.cells #[v] t (0, 0)) ∧ Below w.heap.size w (w1.setCell ⟨g, 0, none⟩ v) :=
  ⟨(blk_set hbox 0 v).trans rfl, below_set hb (by rw [hg]; exact Nat.le_refl _)⟩
end Go.Proofs.Yteggmbhcnhbamaa.F
