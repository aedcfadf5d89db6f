/-
  impl.IndependentSets and its literal: it answers as the plain function here says, and turns nothing that lay. No condition but that the plain function answers.
-/
import Derived.Test.YteggmbhcnhbamaaFx7
import Derived.Test.YteggmbhcnhbamaaFx4
import Derived.Test.YteggmbhcnhbamaaGvSetsOf
import Derived.Test.YteggmbhcnhbamaaGvState
import Derived.Shelf.Abstract
namespace Go.Proofs.Yteggmbhcnhbamaa.F
open Go.RowKit Go.Proofs.YteggmbhcnhbamaaW.PrintWords Go.Proofs.YteggmbhcnhbamaaW.PrintLast Go.Proofs.YteggmbhcnhbamaaW.PrintMore
set_option linter.unusedSimpArgs false
set_option linter.unusedVariables false
def impl_IndependentSets.q (k : Nat) (n : Int) (l : List Int) (s : Int) : Option Bool := impl_independent.f k n l s
def impl_IndependentSets.f (k : Nat) (a0_0 : Int) (l0_1 : List Int) : Option (List Int) := (impl_IsMatroid.f k a0_0 l0_1).bind fun t => if t = true then setsO (impl_IndependentSets.q k a0_0 l0_1) k a0_0 [] 0 else some []
set_option maxHeartbeats 8000000 in
set_option maxRecDepth 100000 in
theorem impl_IndependentSets.pred (k : Nat) (l : List Int) (n : Int) (A : Option Addr) (c gm : Nat) (w : World) (hm : w.heap[gm]? = some (.cells #[.int .i64 n, .slice A l.length c] 27 (0, 0)))
    (hr : Kd.C (Kd.int .i64) w A l.length l) (hc : l.length ≤ c) : PredO 92 #[.pointer (some ⟨gm, 0, none⟩)] (impl_IndependentSets.q k n l) w := by
  intro W x r hq hb
  unfold impl_IndependentSets.q at hq
  have hc0 : W.cell? ⟨gm, 0, none⟩ = some (.int .i64 n) := (blk_cell (blk_below hm hb) 0).trans rfl
  have hc1 : W.cell? ⟨gm, 1, none⟩ = some (.slice A l.length c) := (blk_cell (blk_below hm hb) 1).trans rfl
  have HR := Aside0.mk (Kd.C_below hr hb)
  have HC := Aside0.mk hc
  have H := Aside0.mk hq
  have hu := Try.underlying27
  clear hq hm hr hc hb
  go_enter Try.func92, Try.ntmps92
  go_wp2_with (go_at_call 79; (try simp only [i64_w, i32_w]); (with_reducible refine (impl_independent.calls k n _ _ l x r _ HR.out HC.out H.out).mono ?_); rintro e w' ⟨rfl, hb⟩)
  go_ret
  exact ⟨by first | rfl | simp, by first | exact hb | (obtain ⟨nd, rfl⟩ := hb; exact pw_below_drewN (Below.refl _ _) nd)⟩
set_option maxHeartbeats 8000000 in
set_option maxRecDepth 100000 in
theorem impl_IndependentSets.calls (k : Nat) (a0_0 : Int) (A0_1 : Option Addr) (c0_1 : Nat) (l0_1 : List Int) (r : List Int) (w : World) (hr0_1 : Kd.C (Kd.int .i64) w A0_1 l0_1.length l0_1) (hc0_1 : l0_1.length ≤ c0_1) (h : impl_IndependentSets.f k a0_0 l0_1 = some r) :
    Calls Try.prog 55 #[.agg #[.int .i64 a0_0, .slice A0_1 l0_1.length c0_1]] w fun e w' => ∃ v0_ : Value, e = .returned (v0_) ∧ Kd.R (Kd.int .i64) 3 w' w.heap.size (fun _ => True) v0_ r ∧ Below w.heap.size w w' := by
  have hum := Try.underlying27
  unfold impl_IndependentSets.f at h
  obtain ⟨t, ht, h⟩ := Option.bind_eq_some_iff.mp h
  have HR := Aside0.mk hr0_1
  have HC := Aside0.mk hc0_1
  have HT := Aside0.mk ht
  have H := Aside0.mk h
  clear hr0_1 hc0_1 h ht
  cases t with
  | false =>
    have hn : r = [] := by have := H.out; simpa using this.symm
    subst hn
    clear H
    go_enter Try.func55, Try.ntmps55
    go_wp2_with (first
      | ((with_reducible refine gate_dst (N := 1) rfl ?_); refine box_event ?hg (N := 1) ?hd (cs := #[.int .i64 a0_0, .slice A0_1 l0_1.length c0_1]) (t := 27) ?hr ?_; (case hd => rfl); (case hg => rfl); (case hr => first | (go_simp; done) | (go_simp; rfl)); intro gm hg w4 hbox hb; have HB1 := Aside0.mk hb; have BKm := Aside0.mk hbox; have hcz0 : w4.cell? ⟨gm, 0, none⟩ = some (.int .i64 a0_0) := (blk_cell BKm.out 0).trans rfl; have hcz1 : w4.cell? ⟨gm, 1, none⟩ = some (.slice A0_1 l0_1.length c0_1) := (blk_cell BKm.out 1).trans rfl; clear hb hbox hg)
      | (go_at_call 42; (try simp only [i64_w, i32_w]); (with_reducible refine (impl_IsMatroid.calls k a0_0 _ _ l0_1 false _ (Kd.C_below HR.out HB1.out) HC.out HT.out).mono ?_); rintro e w' ⟨rfl, hb⟩; have HB2 := Aside0.mk (below_step HB1.out hb); clear hb hcz0 hcz1 HB1))
    go_ret
    exact ⟨_, rfl, Kd.R_nil _ _ _ _ _, HB2.out⟩
  | true =>
    have H' := Aside0.mk (show setsO (impl_IndependentSets.q k a0_0 l0_1) k a0_0 [] 0 = some r by have := H.out; simpa using this)
    clear H
    go_enter Try.func55, Try.ntmps55
    go_wp2_with (first
      | ((with_reducible refine gate_dst (N := 1) rfl ?_); refine box_event ?hg (N := 1) ?hd (cs := #[.int .i64 a0_0, .slice A0_1 l0_1.length c0_1]) (t := 27) ?hr ?_; (case hd => rfl); (case hg => rfl); (case hr => first | (go_simp; done) | (go_simp; rfl)); intro gm hg w4 hbox hb; have HB1 := Aside0.mk hb; have BKm := Aside0.mk hbox; have hcz0 : w4.cell? ⟨gm, 0, none⟩ = some (.int .i64 a0_0) := (blk_cell BKm.out 0).trans rfl; have hcz1 : w4.cell? ⟨gm, 1, none⟩ = some (.slice A0_1 l0_1.length c0_1) := (blk_cell BKm.out 1).trans rfl; clear hb hbox hg)
      | (go_at_call 42; (try simp only [i64_w, i32_w]); (with_reducible refine (impl_IsMatroid.calls k a0_0 _ _ l0_1 true _ (Kd.C_below HR.out HB1.out) HC.out HT.out).mono ?_); rintro e w5 ⟨rfl, hb⟩; have HB2 := Aside0.mk (below_step HB1.out hb); have BK2 := Aside0.mk (blk_below BKm.out hb); clear hb hcz0 hcz1 HB1 BKm; have hcz0 : w5.cell? ⟨gm, 0, none⟩ = some (.int .i64 a0_0) := (blk_cell BK2.out 0).trans rfl; have hcz1 : w5.cell? ⟨gm, 1, none⟩ = some (.slice A0_1 l0_1.length c0_1) := (blk_cell BK2.out 1).trans rfl))
    refine (setsOf_calls (impl_IndependentSets.q k a0_0 l0_1) _ _ (enters_of Try.func92 (by kernel_rfl) rfl) k a0_0 r _ (impl_IndependentSets.pred k l0_1 a0_0 _ c0_1 gm _ BK2.out (Kd.C_below HR.out HB2.out) HC.out) H'.out).mono ?_
    rintro e w9 ⟨v, rfl, ho, hb⟩
    have HO := Aside0.mk (Kd.R_lower ho (below_size HB2.out))
    have HB := Aside0.mk (below_step HB2.out hb)
    clear ho hb hcz0 hcz1
    go_wp2
    go_ret
    exact ⟨_, rfl, HO.out, HB.out⟩
end Go.Proofs.Yteggmbhcnhbamaa.F
