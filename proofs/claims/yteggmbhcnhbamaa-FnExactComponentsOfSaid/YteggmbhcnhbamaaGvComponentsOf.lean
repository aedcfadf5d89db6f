/-
  impl.ComponentsOf and its literal: it answers as the plain function here says, and turns nothing that lay. No condition but that the plain function answers.
-/
import Derived.Test.YteggmbhcnhbamaaFx26
import Derived.Test.YteggmbhcnhbamaaFx4
import Derived.Test.YteggmbhcnhbamaaGvSetsOf
import Derived.Test.YteggmbhcnhbamaaGvState
import Derived.Test.YteggmbhcnhbamaaGvMinimalSets
import Derived.Shelf.Abstract
namespace Go.Proofs.Yteggmbhcnhbamaa.F
open Go.RowKit Go.Proofs.YteggmbhcnhbamaaW.PrintWords Go.Proofs.YteggmbhcnhbamaaW.PrintLast Go.Proofs.YteggmbhcnhbamaaW.PrintMore
set_option linter.unusedSimpArgs false
set_option linter.unusedVariables false
def impl_ComponentsOf.q (k : Nat) (n : Int) (l : List Int) (s : Int) : Option Bool := if s = 0 then some false else ((impl_ConnectionOf.f k n l s).bind fun t => some (t == 0))
def impl_ComponentsOf.f (k : Nat) (a0_0 : Int) (l0_1 : List Int) : Option (List Int) := (impl_IsMatroid.f k a0_0 l0_1).bind fun t => if t = true then ((setsO (impl_ComponentsOf.q k a0_0 l0_1) k a0_0 [] 0).bind fun L => impl_MinimalSets.f k L) else some []
set_option maxHeartbeats 8000000 in
set_option maxRecDepth 100000 in
theorem impl_ComponentsOf.pred (k : Nat) (l : List Int) (n : Int) (A : Option Addr) (c gm : Nat) (w : World) (hm : w.heap[gm]? = some (.cells #[.int .i64 n, .slice A l.length c] 27 (0, 0)))
    (hr : Kd.C (Kd.int .i64) w A l.length l) (hc : l.length ≤ c) : PredO 68 #[.pointer (some ⟨gm, 0, none⟩)] (impl_ComponentsOf.q k n l) w := by
  intro W x r hq hb
  unfold impl_ComponentsOf.q at hq
  have hc0 : W.cell? ⟨gm, 0, none⟩ = some (.int .i64 n) := (blk_cell (blk_below hm hb) 0).trans rfl
  have hc1 : W.cell? ⟨gm, 1, none⟩ = some (.slice A l.length c) := (blk_cell (blk_below hm hb) 1).trans rfl
  have HR := Aside0.mk (Kd.C_below hr hb)
  have HC := Aside0.mk hc
  have hu := Try.underlying27
  by_cases e : x = 0
  · rw [if_pos e] at hq
    obtain rfl := Option.some.inj hq
    have e0 : (x != 0) = false := bne_eq_false_iff_eq.mpr e
    clear hq hm hr hc hb e
    go_enter Try.func68, Try.ntmps68
    go_wp2
    go_ret
    exact ⟨rfl, by repeat (first | exact Below.refl _ _ | apply below_drew1 | apply pw_below_drewN)⟩
  · rw [if_neg e] at hq
    have e0 : (x != 0) = true := bne_iff_ne.mpr e
    obtain ⟨t, ht, hq⟩ := Option.bind_eq_some_iff.mp hq
    obtain rfl := Option.some.inj hq
    have H := Aside0.mk ht
    clear hq ht hm hr hc hb e
    go_enter Try.func68, Try.ntmps68
    go_wp2_with (go_at_call 69; (try simp only [i64_w, i32_w]); (with_reducible refine (impl_ConnectionOf.calls k n _ _ l x t _ HR.out HC.out H.out).mono ?_); rintro e w' ⟨rfl, hb⟩)
    go_ret
    exact ⟨by first | rfl | simp, by first | exact hb | (obtain ⟨nd, rfl⟩ := hb; exact pw_below_drewN (Below.refl _ _) nd)⟩
set_option maxHeartbeats 8000000 in
set_option maxRecDepth 100000 in
theorem impl_ComponentsOf.calls (k : Nat) (a0_0 : Int) (A0_1 : Option Addr) (c0_1 : Nat) (l0_1 : List Int) (r : List Int) (w : World) (hr0_1 : Kd.C (Kd.int .i64) w A0_1 l0_1.length l0_1) (hc0_1 : l0_1.length ≤ c0_1) (h : impl_ComponentsOf.f k a0_0 l0_1 = some r) :
    Calls Try.prog 31 #[.agg #[.int .i64 a0_0, .slice A0_1 l0_1.length c0_1]] w fun e w' => ∃ v0_ : Value, e = .returned (v0_) ∧ Kd.R (Kd.int .i64) 3 w' w.heap.size (fun _ => True) v0_ r ∧ Below w.heap.size w w' := by
  have hum := Try.underlying27
  unfold impl_ComponentsOf.f at h
  obtain ⟨t, ht, h⟩ := Option.bind_eq_some_iff.mp h
  have HR := Aside0.mk hr0_1
  have HC := Aside0.mk hc0_1
  have HT := Aside0.mk ht
  have H := Aside0.mk h
  clear hr0_1 hc0_1 h ht
  cases t with
  | false =>
    have hn : r = [] := by have := H.out; simpa using this.symm
    subst hn
    clear H
    go_enter Try.func31, Try.ntmps31
    go_wp2_with (first
      | ((with_reducible refine gate_dst (N := 1) rfl ?_); refine box_event ?hg (N := 1) ?hd (cs := #[.int .i64 a0_0, .slice A0_1 l0_1.length c0_1]) (t := 27) ?hr ?_; (case hd => rfl); (case hg => rfl); (case hr => first | (go_simp; done) | (go_simp; rfl)); intro gm hg w4 hbox hb; have HB1 := Aside0.mk hb; have BKm := Aside0.mk hbox; have hcz0 : w4.cell? ⟨gm, 0, none⟩ = some (.int .i64 a0_0) := (blk_cell BKm.out 0).trans rfl; have hcz1 : w4.cell? ⟨gm, 1, none⟩ = some (.slice A0_1 l0_1.length c0_1) := (blk_cell BKm.out 1).trans rfl; clear hb hbox hg)
      | (go_at_call 42; (try simp only [i64_w, i32_w]); (with_reducible refine (impl_IsMatroid.calls k a0_0 _ _ l0_1 false _ (Kd.C_below HR.out HB1.out) HC.out HT.out).mono ?_); rintro e w' ⟨rfl, hb⟩; have HB2 := Aside0.mk (below_step HB1.out hb); clear hb hcz0 hcz1 HB1))
    go_ret
    exact ⟨_, rfl, Kd.R_nil _ _ _ _ _, HB2.out⟩
  | true =>
    have H1 : ((setsO (impl_ComponentsOf.q k a0_0 l0_1) k a0_0 [] 0).bind fun L => impl_MinimalSets.f k L) = some r := by have := H.out; simpa using this
    obtain ⟨L, hL, hM⟩ := Option.bind_eq_some_iff.mp H1
    have H' := Aside0.mk hL
    have HM := Aside0.mk hM
    clear H1 hL hM
    clear H
    go_enter Try.func31, Try.ntmps31
    go_wp2_with (first
      | ((with_reducible refine gate_dst (N := 1) rfl ?_); refine box_event ?hg (N := 1) ?hd (cs := #[.int .i64 a0_0, .slice A0_1 l0_1.length c0_1]) (t := 27) ?hr ?_; (case hd => rfl); (case hg => rfl); (case hr => first | (go_simp; done) | (go_simp; rfl)); intro gm hg w4 hbox hb; have HB1 := Aside0.mk hb; have BKm := Aside0.mk hbox; have hcz0 : w4.cell? ⟨gm, 0, none⟩ = some (.int .i64 a0_0) := (blk_cell BKm.out 0).trans rfl; have hcz1 : w4.cell? ⟨gm, 1, none⟩ = some (.slice A0_1 l0_1.length c0_1) := (blk_cell BKm.out 1).trans rfl; clear hb hbox hg)
      | (go_at_call 42; (try simp only [i64_w, i32_w]); (with_reducible refine (impl_IsMatroid.calls k a0_0 _ _ l0_1 true _ (Kd.C_below HR.out HB1.out) HC.out HT.out).mono ?_); rintro e w5 ⟨rfl, hb⟩; have HB2 := Aside0.mk (below_step HB1.out hb); have BK2 := Aside0.mk (blk_below BKm.out hb); clear hb hcz0 hcz1 HB1 BKm; have hcz0 : w5.cell? ⟨gm, 0, none⟩ = some (.int .i64 a0_0) := (blk_cell BK2.out 0).trans rfl; have hcz1 : w5.cell? ⟨gm, 1, none⟩ = some (.slice A0_1 l0_1.length c0_1) := (blk_cell BK2.out 1).trans rfl))
    refine (setsOf_calls (impl_ComponentsOf.q k a0_0 l0_1) _ _ (enters_of Try.func68 (by kernel_rfl) rfl) k a0_0 L _ (impl_ComponentsOf.pred k l0_1 a0_0 _ c0_1 gm _ BK2.out (Kd.C_below HR.out HB2.out) HC.out) H'.out).mono ?_
    rintro e w9 ⟨v, rfl, ho, hb⟩
    obtain ⟨Ao, co, eo⟩ := Kd.R_slice ho
    subst eo
    have HO := Aside0.mk ho
    have HB := Aside0.mk (below_step HB2.out hb)
    clear ho hb hcz0 hcz1
    go_wp2_with ((with_reducible refine gate_callee (f := 66) rfl ?_); refine goesL_ (some 10) rfl rfl Try.func66 (by kernel_rfl) rfl #[.slice Ao L.length co] rfl (by (try simp only [List.map_toArray, List.map_cons, List.map_nil]); first | done | rfl) ?_; (with_reducible refine (impl_MinimalSets.calls k _ _ L r _ (Kd.R_reads' HO.out).2.2 (Kd.R_reads' HO.out).2.1 HM.out).mono ?_); rintro e w10 ⟨v10, rfl, ho, hb⟩; refine ⟨_, rfl, ?_⟩; have HO2 := Aside0.mk (Kd.R_lower ho (below_size HB.out)); have HB3 := Aside0.mk (below_step HB.out hb); clear ho hb HB HO)
    go_ret
    exact ⟨_, rfl, HO2.out, HB3.out⟩
end Go.Proofs.Yteggmbhcnhbamaa.F
