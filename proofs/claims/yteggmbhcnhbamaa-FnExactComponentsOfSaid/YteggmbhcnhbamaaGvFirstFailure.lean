/-
  impl.FirstFailure: its literal, and the walk through its three loops: it answers as the plain function here says, and turns nothing that lay. No condition but that the plain function answers.
-/
import Derived.Test.YteggmbhcnhbamaaFx1
import Derived.Test.YteggmbhcnhbamaaGvFunc
import Derived.Test.YteggmbhcnhbamaaGvState
import Derived.Shelf.Abstract
namespace Go.Proofs.Yteggmbhcnhbamaa.F
open Go.RowKit Go.Proofs.YteggmbhcnhbamaaW.PrintWords Go.Proofs.YteggmbhcnhbamaaW.PrintLast Go.Proofs.YteggmbhcnhbamaaW.PrintMore
set_option linter.unusedSimpArgs false
set_option linter.unusedVariables false
/-- Does f put for e make a base of a? -/
def impl_FirstFailure.q (k : Nat) (l : List Int) (a e : Int) (x : Int) : Option Bool :=
  if 0 ≤ e then (if 0 ≤ x then impl_HasSet.f k l (Go.bits .or .i64 (Go.bits .andNot .i64 a (shl .i64 1 e)) (shl .i64 1 x)) else none) else none
mutual
def impl_FirstFailure.l0 : Nat → List Int → Int → Option (Int × Int × Int × Bool)
  | 0, _, _ => none
  | k + 1, l, x21 => if x21 < (l.length : Int) then (if 0 ≤ x21 then impl_FirstFailure.l1 k l x21 0 else none) else some (0, 0, 0, false)
def impl_FirstFailure.l1 : Nat → List Int → Int → Int → Option (Int × Int × Int × Bool)
  | 0, _, _, _ => none
  | k + 1, l, x21, x28 => if x28 < (l.length : Int) then (if 0 ≤ x28 then ((impl_ElementsOf.f k (Go.bits .andNot .i64 (rd l x21) (rd l x28))).bind fun es => impl_FirstFailure.l2 k l x21 x28 es 0) else none) else impl_FirstFailure.l0 k l (wrap64 (x21 + 1))
def impl_FirstFailure.l2 : Nat → List Int → Int → Int → List Int → Int → Option (Int × Int × Int × Bool)
  | 0, _, _, _, _, _ => none
  | k + 1, l, x21, x28, es, x37 =>
    if x37 < (es.length : Int) then
      (if 0 ≤ x37 then ((impl_ElementsOf.f k (Go.bits .andNot .i64 (rd l x28) (rd l x21))).bind fun fs => (if fs.length ≤ 17592186044416 then ((anyO (impl_FirstFailure.q k l (rd l x21) (rd es x37)) fs).bind fun t =>
        if t = true then impl_FirstFailure.l2 k l x21 x28 es (wrap64 (x37 + 1)) else some (rd l x21, rd l x28, rd es x37, true)) else none)) else none)
    else impl_FirstFailure.l1 k l x21 (wrap64 (x28 + 1))
end
def impl_FirstFailure.f (k : Nat) (a0_0 : Int) (l0_1 : List Int) : Option (Int × Int × Int × Bool) :=
  (impl_IsFamily.f k a0_0 l0_1).bind fun t => if t = true then impl_FirstFailure.l0 k l0_1 0 else some (0, 0, 0, false)
set_option maxHeartbeats 8000000 in
set_option maxRecDepth 100000 in
theorem impl_FirstFailure.pred (k : Nat) (l : List Int) (a e n : Int) (A : Option Addr) (c gm ga ge : Nat) (w : World) (hm : w.heap[gm]? = some (.cells #[.int .i64 n, .slice A l.length c] 27 (0, 0)))
    (ha : w.heap[ga]? = some (.cells #[.int .i64 a] 3 (0, 0))) (he : w.heap[ge]? = some (.cells #[.int .i64 e] 3 (0, 0))) (hr : Kd.C (Kd.int .i64) w A l.length l) (hc : l.length ≤ c) :
    PredO 111 #[.pointer (some ⟨gm, 0, none⟩), .pointer (some ⟨ga, 0, none⟩), .pointer (some ⟨ge, 0, none⟩)] (impl_FirstFailure.q k l a e) w := by
  intro W x r hq hb
  unfold impl_FirstFailure.q at hq
  by_cases h0 : 0 ≤ e
  · rw [if_pos h0] at hq
    by_cases h1 : 0 ≤ x
    · rw [if_pos h1] at hq
      have hc0 : W.cell? ⟨gm, 1, none⟩ = some (.slice A l.length c) := (blk_cell (blk_below hm hb) 1).trans rfl
      have hc1 : W.cell? ⟨ga, 0, none⟩ = some (.int .i64 a) := (blk_cell (blk_below ha hb) 0).trans rfl
      have hc2 : W.cell? ⟨ge, 0, none⟩ = some (.int .i64 e) := (blk_cell (blk_below he hb) 0).trans rfl
      have HR := Aside0.mk (Kd.C_below hr hb)
      have HC := Aside0.mk hc
      have hu := Try.underlying27
      obtain ⟨j1, hj1⟩ : ∃ j_ : Int, (shl .i64 1 e) = j_ := ⟨_, rfl⟩
      obtain ⟨j2, hj2⟩ : ∃ j_ : Int, (shl .i64 1 x) = j_ := ⟨_, rfl⟩
      rw [hj1, hj2] at hq
      have H := Aside0.mk hq
      clear hq hm ha he hr hc hb
      have hj1_ : (IntKind.i64.wrap (1 * 2 ^ min e.toNat 64)) = j1 := hj1
      have hj1u : (IntKind.i64.wrap (2 ^ min e.toNat 64)) = j1 := by have h_ := hj1_; rw [Int.one_mul] at h_; exact h_
      have hj1y : (wrap64 (1 * 2 ^ min e.toNat 64)) = j1 := (i64_w _).symm.trans hj1_
      have hj2_ : (IntKind.i64.wrap (1 * 2 ^ min x.toNat 64)) = j2 := hj2
      have hj2u : (IntKind.i64.wrap (2 ^ min x.toNat 64)) = j2 := by have h_ := hj2_; rw [Int.one_mul] at h_; exact h_
      have hj2y : (wrap64 (1 * 2 ^ min x.toNat 64)) = j2 := (i64_w _).symm.trans hj2_
      have c0b0 : decide (0 ≤ e) = true := decide_eq_true h0
      have c1b0 : decide (0 ≤ x) = true := decide_eq_true h1
      replace h0 := eq_true h0
      replace h1 := eq_true h1
      go_enter Try.func111, Try.ntmps111
      go_wp2
      repeat (go_quiet ((go_at_call 112; (try simp only [i64_w, i32_w]); (with_reducible refine (impl_HasSet.calls k _ _ l _ r _ ?side1 HC.out H.out).mono ?_); (case side1 => repeat (first | exact HR.out | (with_reducible refine Kd.C_drewN ?_ _) | (with_reducible refine Kd.C_drew ?_))); rintro e w' ⟨rfl, ⟨nd, rfl⟩⟩; (try first | exact ⟨rfl, _, World.drewN_drewN _ _ _⟩ | exact ⟨rfl, _, Eq.trans (World.drewN_drewN _ _ _) (congrArg (World.drewN _) (Nat.add_assoc _ _ _))⟩))); try go_wp2)
      go_ret
      exact ⟨rfl, by repeat (first | exact Below.refl _ _ | apply below_drew1 | apply pw_below_drewN)⟩
    · rw [if_neg h1] at hq; exact absurd hq (by simp)
  · rw [if_neg h0] at hq; exact absurd hq (by simp)
set_option maxHeartbeats 8000000 in
set_option maxRecDepth 100000 in
theorem impl_FirstFailure.calls (k : Nat) (a0_0 : Int) (A0_1 : Option Addr) (c0_1 : Nat) (l0_1 : List Int) (r1 : Int) (r2 : Int) (r3 : Int) (r4 : Bool) (w : World) (hr0_1 : Kd.C (Kd.int .i64) w A0_1 l0_1.length l0_1) (hc0_1 : l0_1.length ≤ c0_1) (h : impl_FirstFailure.f k a0_0 l0_1 = some (r1, r2, r3, r4)) :
    Calls Try.prog 77 #[.agg #[.int .i64 a0_0, .slice A0_1 l0_1.length c0_1]] w fun e w' => e = .returned (.tuple #[.agg #[.int .i64 r1, .int .i64 r2, .int .i64 r3], .bool r4]) ∧ Below w.heap.size w w' := by
  have hum := Try.underlying27
  have huf := Try.underlying50
  have HR := Aside0.mk hr0_1
  have HC := Aside0.mk hc0_1
  have HB := Aside0.mk (Below.refl w.heap.size w)
  clear hr0_1 hc0_1
  unfold impl_FirstFailure.f at h
  obtain ⟨t0, ht0, h⟩ := Option.bind_eq_some_iff.mp h
  have HT := Aside0.mk ht0
  clear ht0
  have H := Aside0.mk h
  clear h
  cases t0 with
  | false =>
    go_enter Try.func77, Try.ntmps77
    go_wp2_with (first
      | ((with_reducible refine gate_dst (N := 1) rfl ?_); refine box_event ?hg (N := 1) ?hd (cs := #[.int .i64 a0_0, .slice A0_1 l0_1.length c0_1]) (t := 27) ?hr ?_; (case hd => rfl); (case hg => rfl); (case hr => first | (go_simp; done) | (go_simp; rfl)); intro gm hg w4 hbox hb; have HB1 := Aside0.mk hb; have BKm := Aside0.mk hbox; have HG1 := Aside0.mk hg; clear hb hbox hg)
      | ((with_reducible refine gate_dst (N := 2) rfl ?_); refine box_event ?hg (N := 2) ?hd (cs := #[.int .i64 0, .int .i64 0, .int .i64 0]) (t := 50) ?hr ?_; (case hd => rfl); (case hg => rfl); (case hr => first | (go_simp; done) | (go_simp; rfl)); intro gr hg w5 hbox hb; have HG2 := Aside0.mk hg; have HGr := Aside0.mk (show w.heap.size ≤ gr from by rw [hg]; exact HB1.out.size); have HNE := Aside0.mk (show gm ≠ gr from by rw [hg]; exact Nat.ne_of_lt (blk_lt BKm.out)); have HS := Aside0.mk (FFS.mk (n := a0_0) (A := A0_1) (c := c0_1) (l := l0_1) (gm := gm) (gr := gr) (w0 := w) (blk_below BKm.out hb) hbox (Kd.C_below HR.out (below_step HB1.out hb)) (below_step HB1.out hb)); clear BKm HB1 hb hbox hg; have hcz0 : w5.cell? ⟨gm, 0, none⟩ = some (.int .i64 a0_0) := (blk_cell HS.out.m 0).trans rfl; have hcz1 : w5.cell? ⟨gm, 1, none⟩ = some (.slice A0_1 l0_1.length c0_1) := (blk_cell HS.out.m 1).trans rfl)
      | ((with_reducible refine gate_callee (f := 52) rfl ?_); refine goesL_ (some 15) rfl rfl Try.func52 (by kernel_rfl) rfl #[.int .i64 a0_0, .slice A0_1 l0_1.length c0_1] rfl (by (try simp only [List.map_toArray, List.map_cons, List.map_nil]); first | done | rfl) ?_; (with_reducible refine (impl_IsFamily.calls k a0_0 _ _ l0_1 false _ HS.out.C HC.out HT.out).mono ?_); rintro e w' ⟨rfl, ⟨nd, rfl⟩⟩; refine ⟨_, rfl, ?_⟩; generalize hw6 : w5.drewN nd = w6; have HS6 := Aside0.mk (HS.out.below (w2 := w6) (by rw [← hw6]; exact pw_below_drewN (Below.refl _ _) nd)); clear hw6 HS hcz0 hcz1; have HS := HS6; clear HS6; have hne := HNE.out; have hne2 := HNE.out.symm; have hcr0 : w6.cell? ⟨gr, 0, none⟩ = some (.int .i64 0) := (blk_cell HS.out.r 0).trans rfl; have hcr1 : w6.cell? ⟨gr, 1, none⟩ = some (.int .i64 0) := (blk_cell HS.out.r 1).trans rfl; have hcr2 : w6.cell? ⟨gr, 2, none⟩ = some (.int .i64 0) := (blk_cell HS.out.r 2).trans rfl; have hfr0 := blk_frozen HS.out.r 0; have hfr1 := blk_frozen HS.out.r 1; have hfr2 := blk_frozen HS.out.r 2))
    refine bodyPost_ret (results_ct rfl _ _ gr 50 #[.int .i64 0, .int .i64 0, .int .i64 0] (0, 0) _ rfl (by refine blk_put (cs := #[.int .i64 0, .int .i64 0, .int .i64 0]) ?_ 2 _ rfl; refine blk_put (cs := #[.int .i64 0, .int .i64 0, .int .i64 0]) ?_ 1 _ rfl; refine blk_put (cs := #[.int .i64 0, .int .i64 0, .int .i64 0]) ?_ 0 _ rfl; exact HS.out.r) Try.underlying50 rfl (by kernel_rfl)) rfl ?_
    have hh := H.out
    simp only [Bool.false_eq_true, if_false, Option.some.injEq, Prod.mk.injEq] at hh
    obtain ⟨rfl, rfl, rfl, rfl⟩ := hh
    exact ⟨rfl, by repeat (first | exact HS.out.B | refine below_set ?_ HGr.out)⟩
  | true =>
    go_enter Try.func77, Try.ntmps77
    go_wp2_with (first
      | ((with_reducible refine gate_dst (N := 1) rfl ?_); refine box_event ?hg (N := 1) ?hd (cs := #[.int .i64 a0_0, .slice A0_1 l0_1.length c0_1]) (t := 27) ?hr ?_; (case hd => rfl); (case hg => rfl); (case hr => first | (go_simp; done) | (go_simp; rfl)); intro gm hg w4 hbox hb; have HB1 := Aside0.mk hb; have BKm := Aside0.mk hbox; have HG1 := Aside0.mk hg; clear hb hbox hg)
      | ((with_reducible refine gate_dst (N := 2) rfl ?_); refine box_event ?hg (N := 2) ?hd (cs := #[.int .i64 0, .int .i64 0, .int .i64 0]) (t := 50) ?hr ?_; (case hd => rfl); (case hg => rfl); (case hr => first | (go_simp; done) | (go_simp; rfl)); intro gr hg w5 hbox hb; have HG2 := Aside0.mk hg; have HGr := Aside0.mk (show w.heap.size ≤ gr from by rw [hg]; exact HB1.out.size); have HNE := Aside0.mk (show gm ≠ gr from by rw [hg]; exact Nat.ne_of_lt (blk_lt BKm.out)); have HS := Aside0.mk (FFS.mk (n := a0_0) (A := A0_1) (c := c0_1) (l := l0_1) (gm := gm) (gr := gr) (w0 := w) (blk_below BKm.out hb) hbox (Kd.C_below HR.out (below_step HB1.out hb)) (below_step HB1.out hb)); clear BKm HB1 hb hbox hg; have hcz0 : w5.cell? ⟨gm, 0, none⟩ = some (.int .i64 a0_0) := (blk_cell HS.out.m 0).trans rfl; have hcz1 : w5.cell? ⟨gm, 1, none⟩ = some (.slice A0_1 l0_1.length c0_1) := (blk_cell HS.out.m 1).trans rfl)
      | ((with_reducible refine gate_callee (f := 52) rfl ?_); refine goesL_ (some 15) rfl rfl Try.func52 (by kernel_rfl) rfl #[.int .i64 a0_0, .slice A0_1 l0_1.length c0_1] rfl (by (try simp only [List.map_toArray, List.map_cons, List.map_nil]); first | done | rfl) ?_; (with_reducible refine (impl_IsFamily.calls k a0_0 _ _ l0_1 true _ HS.out.C HC.out HT.out).mono ?_); rintro e w' ⟨rfl, ⟨nd, rfl⟩⟩; refine ⟨_, rfl, ?_⟩; generalize hw6 : w5.drewN nd = w6; have HS6 := Aside0.mk (HS.out.below (w2 := w6) (by rw [← hw6]; exact pw_below_drewN (Below.refl _ _) nd)); clear hw6 HS hcz0 hcz1; have HS := HS6; clear HS6; have hcz1 : w6.cell? ⟨gm, 1, none⟩ = some (.slice A0_1 l0_1.length c0_1) := (blk_cell HS.out.m 1).trans rfl))
    have H0 := Aside0.mk (show impl_FirstFailure.l0 k l0_1 0 = some (r1, r2, r3, r4) by have hh := H.out; simpa using hh)
    clear H hcz1
    go_loopg [21] k (fun kq v21 w' => ∃ (x21 : Int), v21 = .int .i64 x21 ∧ Aside0 (impl_FirstFailure.l0 kq l0_1 x21 = some (r1, r2, r3, r4)) ∧ Aside0 (kq ≤ k) ∧ Aside0 (FFS w w' gm gr a0_0 A0_1 c0_1 l0_1))
    case atStart => exact ⟨0, rfl, H0, ⟨Nat.le_refl _⟩, HS⟩
    case round =>
      clear H0 HS HB HG1 HG2
      obtain ⟨x21, rfl, HA, HK1, HS⟩ := hrel
      cases gk with
      | zero => exact absurd HA.out (by simp [impl_FirstFailure.l0])
      | succ k1 =>
        have H := HA.out
        clear HA
        simp only [impl_FirstFailure.l0] at H
        by_cases c1 : x21 < (l0_1.length : Int)
        · rw [if_pos c1] at H
          by_cases c2 : 0 ≤ x21
          · rw [if_pos c2] at H
            have H1 := Aside0.mk H
            clear H
            have c1b0 : decide (x21 < (l0_1.length : Int)) = true := decide_eq_true c1
            have c2b0 : decide (0 ≤ x21) = true := decide_eq_true c2
            obtain ⟨ad1, e1, hx1⟩ := Kd.at_int HS.out.C x21 c2 c1
            cases e1
            replace c1 := eq_true c1
            replace c2 := eq_true c2
            have hcz1 : wr.cell? ⟨gm, 1, none⟩ = some (.slice (some ad1) l0_1.length c0_1) := (blk_cell HS.out.m 1).trans rfl
            go_wp2_with (first
              | ((with_reducible refine gate_dst (N := 5) rfl ?_); refine box_event ?hg (N := 5) ?hd (cs := #[.int .i64 0]) (t := 3) ?hr ?_; (case hd => rfl); (case hg => rfl); (case hr => first | (go_simp; done) | (go_simp; rfl)); intro ga hg w7 hbox hb; have HG3 := Aside0.mk hg; have BKa := Aside0.mk hbox; have HBa := Aside0.mk hb; have hca : w7.cell? ⟨ga, 0, none⟩ = some (.int .i64 0) := (blk_cell BKa.out 0).trans rfl; have hfa := blk_frozen BKa.out 0; clear hg hbox hb hx1 hcz1)
              | ((with_reducible refine gate_store (t := 3) (p := 5) rfl ?_); refine store_event (t := 3) (p := 5) (v := ?vo_w8) (w1 := (w7.setCell ⟨ga, 0, none⟩ (.int .i64 (rd l0_1 x21)))) ?hg ?ho ?hn ?hr ?_; (case ho => rfl); (case hg => rfl); (case hn => rfl); (case hr => first | (go_simp; done) | (go_simp; rfl)); intro w8 hw; have hp_ := box_put (v := .int .i64 (rd l0_1 x21)) HG3.out BKa.out HBa.out; rw [← hw] at hp_; have HS8 := Aside0.mk (HS.out.below hp_.2); have BK8 := Aside0.mk hp_.1; clear hp_ hw BKa HBa HG3 HS hca hfa; have HS := HS8; have BKa := BK8; clear HS8 BK8; have hcz1 : w8.cell? ⟨gm, 1, none⟩ = some (.slice (some ad1) l0_1.length c0_1) := (blk_cell HS.out.m 1).trans rfl))
            clear hcz1
            go_loopg [28] k1 (fun kq v28 w' => ∃ (x28 : Int), v28 = .int .i64 x28 ∧ Aside0 (impl_FirstFailure.l1 kq l0_1 x21 x28 = some (r1, r2, r3, r4)) ∧ Aside0 (kq ≤ k1) ∧ Aside0 (FFS w w' gm gr a0_0 (some ad1) c0_1 l0_1) ∧ Aside0 (w'.heap[ga]? = some (.cells #[.int .i64 (rd l0_1 x21)] 3 (0, 0))))
            case atStart => exact ⟨0, rfl, H1, ⟨Nat.le_refl _⟩, HS, BKa⟩
            case round =>
              clear H1 HS BKa
              obtain ⟨x28, rfl, HA, HK2, HS, BKa⟩ := hrel
              cases gk with
              | zero => exact absurd HA.out (by simp [impl_FirstFailure.l1])
              | succ k2 =>
                have H := HA.out
                clear HA
                simp only [impl_FirstFailure.l1] at H
                by_cases c3 : x28 < (l0_1.length : Int)
                · rw [if_pos c3] at H
                  by_cases c4 : 0 ≤ x28
                  · rw [if_pos c4] at H
                    obtain ⟨es, hes, H⟩ := Option.bind_eq_some_iff.mp H
                    have H1 := Aside0.mk H
                    have HE := Aside0.mk hes
                    clear H hes
                    have c3b0 : decide (x28 < (l0_1.length : Int)) = true := decide_eq_true c3
                    have c4b0 : decide (0 ≤ x28) = true := decide_eq_true c4
                    obtain ⟨ad2, e2, hx2⟩ := Kd.at_int HS.out.C x28 c4 c3
                    cases e2
                    replace c3 := eq_true c3
                    replace c4 := eq_true c4
                    have hca : wr.cell? ⟨ga, 0, none⟩ = some (.int .i64 (rd l0_1 x21)) := (blk_cell BKa.out 0).trans rfl
                    go_wp2_with ((with_reducible refine gate_callee (f := 110) rfl ?_); refine goesL_ (some 35) rfl rfl Try.func110 (by kernel_rfl) rfl #[.int .i64 (Go.bits .andNot .i64 (rd l0_1 x21) (rd l0_1 x28))] rfl (by (try simp only [List.map_toArray, List.map_cons, List.map_nil]); first | done | rfl) ?_; (with_reducible refine (impl_ElementsOf.calls k2 _ es _ HE.out).mono ?_); rintro e w9 ⟨ve, rfl, ho, hb⟩; refine ⟨_, rfl, ?_⟩; obtain ⟨Ae, ce, ee⟩ := Kd.R_slice ho; subst ee; have HCE := Aside0.mk (Kd.R_reads' ho).2.2; have HLE := Aside0.mk (Kd.R_reads' ho).2.1; have HS9 := Aside0.mk (HS.out.below hb); have BK9 := Aside0.mk (blk_below BKa.out hb); clear ho hb HS BKa hx2 hca; have HS := HS9; have BKa := BK9; clear HS9 BK9)
                    go_loopg [37] k2 (fun kq v37 w' => ∃ (x37 : Int), v37 = .int .i64 x37 ∧ Aside0 (impl_FirstFailure.l2 kq l0_1 x21 x28 es x37 = some (r1, r2, r3, r4)) ∧ Aside0 (kq ≤ k2) ∧ Aside0 (FFS w w' gm gr a0_0 (some ad1) c0_1 l0_1) ∧ Aside0 (w'.heap[ga]? = some (.cells #[.int .i64 (rd l0_1 x21)] 3 (0, 0))) ∧ Aside0 (Kd.C (Kd.int .i64) w' Ae es.length es))
                    case atStart => exact ⟨0, rfl, H1, ⟨Nat.le_refl _⟩, HS, BKa, HCE⟩
                    case round =>
                      clear H1 HS BKa HCE HE
                      obtain ⟨x37, rfl, HA, HK3, HS, BKa, HCE⟩ := hrel
                      cases gk with
                      | zero => exact absurd HA.out (by simp [impl_FirstFailure.l2])
                      | succ k3 =>
                        have H := HA.out
                        clear HA
                        simp only [impl_FirstFailure.l2] at H
                        by_cases c5 : x37 < (es.length : Int)
                        · rw [if_pos c5] at H
                          by_cases c6 : 0 ≤ x37
                          · rw [if_pos c6] at H
                            obtain ⟨fs, hfs, H⟩ := Option.bind_eq_some_iff.mp H
                            by_cases c7 : fs.length ≤ 17592186044416
                            · rw [if_pos c7] at H
                              obtain ⟨tt, htt, H⟩ := Option.bind_eq_some_iff.mp H
                              have HF := Aside0.mk hfs
                              have HLF := Aside0.mk c7
                              have HAny := Aside0.mk htt
                              have H1 := Aside0.mk H
                              clear H hfs c7 htt
                              have c5b0 : decide (x37 < (es.length : Int)) = true := decide_eq_true c5
                              have c6b0 : decide (0 ≤ x37) = true := decide_eq_true c6
                              obtain ⟨ad3, e3, hx3⟩ := Kd.at_int HCE.out x37 c6 c5
                              cases e3
                              replace c5 := eq_true c5
                              replace c6 := eq_true c6
                              cases tt with
                              | true =>
                                go_wp2_with (first
                                  | ((with_reducible refine gate_dst (N := 9) rfl ?_); refine box_event ?hg (N := 9) ?hd (cs := #[.int .i64 0]) (t := 3) ?hr ?_; (case hd => rfl); (case hg => rfl); (case hr => first | (go_simp; done) | (go_simp; rfl)); intro ge hg w10 hbox hb; have HG4 := Aside0.mk hg; have BKe := Aside0.mk hbox; have HBe := Aside0.mk hb; have hce : w10.cell? ⟨ge, 0, none⟩ = some (.int .i64 0) := (blk_cell BKe.out 0).trans rfl; have hfe := blk_frozen BKe.out 0; clear hg hbox hb hx3)
                                  | ((with_reducible refine gate_store (t := 3) (p := 9) rfl ?_); refine store_event (t := 3) (p := 9) (v := ?vo_w11) (w1 := (w10.setCell ⟨ge, 0, none⟩ (.int .i64 (rd es x37)))) ?hg ?ho ?hn ?hr ?_; (case ho => rfl); (case hg => rfl); (case hn => rfl); (case hr => first | (go_simp; done) | (go_simp; rfl)); intro w11 hw; have hp_ := box_put (v := .int .i64 (rd es x37)) HG4.out BKe.out HBe.out; rw [← hw] at hp_; have HS8 := Aside0.mk (HS.out.below hp_.2); have BK8 := Aside0.mk hp_.1; have BK7 := Aside0.mk (blk_below BKa.out hp_.2); have HC8 := Aside0.mk (Kd.C_below HCE.out hp_.2); clear hp_ hw BKe HBe HG4 HS hce hfe BKa HCE; have HS := HS8; have BKe := BK8; have BKa := BK7; have HCE := HC8; clear HS8 BK8 BK7 HC8; have hca : w11.cell? ⟨ga, 0, none⟩ = some (.int .i64 (rd l0_1 x21)) := (blk_cell BKa.out 0).trans rfl)
                                  | ((with_reducible refine gate_callee (f := 110) rfl ?_); refine goesL_ (some 44) rfl rfl Try.func110 (by kernel_rfl) rfl #[.int .i64 (Go.bits .andNot .i64 (rd l0_1 x28) (rd l0_1 x21))] rfl (by (try simp only [List.map_toArray, List.map_cons, List.map_nil]); first | done | rfl) ?_; (with_reducible refine (impl_ElementsOf.calls k3 _ fs _ HF.out).mono ?_); rintro e w12 ⟨vf, rfl, ho, hb⟩; refine ⟨_, rfl, ?_⟩; obtain ⟨Af, cf, ef⟩ := Kd.R_slice ho; subst ef; have HCF := Aside0.mk (Kd.R_reads' ho).2.2; have HLF2 := Aside0.mk (Kd.R_reads' ho).2.1; have HS8 := Aside0.mk (HS.out.below hb); have BK8 := Aside0.mk (blk_below BKe.out hb); have BK7 := Aside0.mk (blk_below BKa.out hb); have HC8 := Aside0.mk (Kd.C_below HCE.out hb); clear ho hb BKe HS BKa HCE hca; have HS := HS8; have BKe := BK8; have BKa := BK7; have HCE := HC8; clear HS8 BK8 BK7 HC8))
                                refine (ContainsFunc_calls (impl_FirstFailure.q k3 l0_1 (rd l0_1 x21) (rd es x37)) _ _ (enters_of Try.func111 (by kernel_rfl) rfl) _ _ fs true _ (impl_FirstFailure.pred k3 l0_1 (rd l0_1 x21) (rd es x37) a0_0 _ c0_1 gm ga ge _ HS.out.m BKa.out BKe.out HS.out.C HC.out) HCF.out HLF2.out HLF.out HAny.out).mono ?_
                                rintro e w13 ⟨rfl, hb⟩
                                have HS8 := Aside0.mk (HS.out.below hb)
                                have BK8 := Aside0.mk (blk_below BKe.out hb)
                                have BK7 := Aside0.mk (blk_below BKa.out hb)
                                have HC8 := Aside0.mk (Kd.C_below HCE.out hb)
                                clear hb BKe HS BKa HCE HCF
                                have HS := HS8
                                have BKe := BK8
                                have BKa := BK7
                                have HCE := HC8
                                clear HS8 BK8 BK7 HC8
                                go_wp2
                                go_roundg k3
                                case measure => have := HK1.out; have := HK2.out; have := HK3.out; omega
                                case rel => exact ⟨wrap64 (x37 + 1), rfl, ⟨by have hh := H1.out; simpa using hh⟩, ⟨by have := HK3.out; omega⟩, HS, BKa, HCE⟩
                              | false =>
                                have hh := H1.out
                                simp only [Bool.false_eq_true, if_false, Option.some.injEq, Prod.mk.injEq] at hh
                                obtain ⟨rfl, rfl, rfl, rfl⟩ := hh
                                clear H1
                                have hne := HNE.out
                                have hne2 := HNE.out.symm
                                go_wp2_with (first
                                  | ((with_reducible refine gate_dst (N := 9) rfl ?_); refine box_event ?hg (N := 9) ?hd (cs := #[.int .i64 0]) (t := 3) ?hr ?_; (case hd => rfl); (case hg => rfl); (case hr => first | (go_simp; done) | (go_simp; rfl)); intro ge hg w10 hbox hb; have HG4 := Aside0.mk hg; have BKe := Aside0.mk hbox; have HBe := Aside0.mk hb; have hce : w10.cell? ⟨ge, 0, none⟩ = some (.int .i64 0) := (blk_cell BKe.out 0).trans rfl; have hfe := blk_frozen BKe.out 0; clear hg hbox hb hx3)
                                  | ((with_reducible refine gate_store (t := 3) (p := 9) rfl ?_); refine store_event (t := 3) (p := 9) (v := ?vo_w11) (w1 := (w10.setCell ⟨ge, 0, none⟩ (.int .i64 (rd es x37)))) ?hg ?ho ?hn ?hr ?_; (case ho => rfl); (case hg => rfl); (case hn => rfl); (case hr => first | (go_simp; done) | (go_simp; rfl)); intro w11 hw; have hp_ := box_put (v := .int .i64 (rd es x37)) HG4.out BKe.out HBe.out; rw [← hw] at hp_; have HS8 := Aside0.mk (HS.out.below hp_.2); have BK8 := Aside0.mk hp_.1; have BK7 := Aside0.mk (blk_below BKa.out hp_.2); have HC8 := Aside0.mk (Kd.C_below HCE.out hp_.2); clear hp_ hw BKe HBe HG4 HS hce hfe BKa HCE; have HS := HS8; have BKe := BK8; have BKa := BK7; have HCE := HC8; clear HS8 BK8 BK7 HC8; have hca : w11.cell? ⟨ga, 0, none⟩ = some (.int .i64 (rd l0_1 x21)) := (blk_cell BKa.out 0).trans rfl)
                                  | ((with_reducible refine gate_callee (f := 110) rfl ?_); refine goesL_ (some 44) rfl rfl Try.func110 (by kernel_rfl) rfl #[.int .i64 (Go.bits .andNot .i64 (rd l0_1 x28) (rd l0_1 x21))] rfl (by (try simp only [List.map_toArray, List.map_cons, List.map_nil]); first | done | rfl) ?_; (with_reducible refine (impl_ElementsOf.calls k3 _ fs _ HF.out).mono ?_); rintro e w12 ⟨vf, rfl, ho, hb⟩; refine ⟨_, rfl, ?_⟩; obtain ⟨Af, cf, ef⟩ := Kd.R_slice ho; subst ef; have HCF := Aside0.mk (Kd.R_reads' ho).2.2; have HLF2 := Aside0.mk (Kd.R_reads' ho).2.1; have HS8 := Aside0.mk (HS.out.below hb); have BK8 := Aside0.mk (blk_below BKe.out hb); have BK7 := Aside0.mk (blk_below BKa.out hb); have HC8 := Aside0.mk (Kd.C_below HCE.out hb); clear ho hb BKe HS BKa HCE hca; have HS := HS8; have BKe := BK8; have BKa := BK7; have HCE := HC8; clear HS8 BK8 BK7 HC8))
                                refine (ContainsFunc_calls (impl_FirstFailure.q k3 l0_1 (rd l0_1 x21) (rd es x37)) _ _ (enters_of Try.func111 (by kernel_rfl) rfl) _ _ fs false _ (impl_FirstFailure.pred k3 l0_1 (rd l0_1 x21) (rd es x37) a0_0 _ c0_1 gm ga ge _ HS.out.m BKa.out BKe.out HS.out.C HC.out) HCF.out HLF2.out HLF.out HAny.out).mono ?_
                                rintro e w13 ⟨rfl, hb⟩
                                have HS8 := Aside0.mk (HS.out.below hb)
                                have BK8 := Aside0.mk (blk_below BKe.out hb)
                                have BK7 := Aside0.mk (blk_below BKa.out hb)
                                have HC8 := Aside0.mk (Kd.C_below HCE.out hb)
                                clear hb BKe HS BKa HCE HCF
                                have HS := HS8
                                have BKe := BK8
                                have BKa := BK7
                                have HCE := HC8
                                clear HS8 BK8 BK7 HC8
                                have hca : w13.cell? ⟨ga, 0, none⟩ = some (.int .i64 (rd l0_1 x21)) := (blk_cell BKa.out 0).trans rfl
                                have hce : w13.cell? ⟨ge, 0, none⟩ = some (.int .i64 (rd es x37)) := (blk_cell BKe.out 0).trans rfl
                                have hcr0 : w13.cell? ⟨gr, 0, none⟩ = some (.int .i64 0) := (blk_cell HS.out.r 0).trans rfl
                                have hcr1 : w13.cell? ⟨gr, 1, none⟩ = some (.int .i64 0) := (blk_cell HS.out.r 1).trans rfl
                                have hcr2 : w13.cell? ⟨gr, 2, none⟩ = some (.int .i64 0) := (blk_cell HS.out.r 2).trans rfl
                                have hfr0 := blk_frozen HS.out.r 0
                                have hfr1 := blk_frozen HS.out.r 1
                                have hfr2 := blk_frozen HS.out.r 2
                                go_wp2
                                refine bodyPost_ret (results_ct rfl _ _ gr 50 #[.int .i64 (rd l0_1 x21), .int .i64 (rd l0_1 x28), .int .i64 (rd es x37)] (0, 0) _ rfl (by refine blk_put (cs := #[.int .i64 (rd l0_1 x21), .int .i64 (rd l0_1 x28), .int .i64 0]) ?_ 2 _ rfl; refine blk_put (cs := #[.int .i64 (rd l0_1 x21), .int .i64 0, .int .i64 0]) ?_ 1 _ rfl; refine blk_put (cs := #[.int .i64 0, .int .i64 0, .int .i64 0]) ?_ 0 _ rfl; exact HS.out.r) Try.underlying50 rfl (by kernel_rfl)) rfl ?_
                                exact ⟨rfl, by repeat (first | exact HS.out.B | refine below_set ?_ HGr.out)⟩
                            · rw [if_neg c7] at H
                              exact absurd H (by simp)
                          · rw [if_neg c6] at H
                            exact absurd H (by simp)
                        · rw [if_neg c5] at H
                          have H1 := Aside0.mk H
                          clear H
                          have c5b0 : decide (x37 < (es.length : Int)) = false := decide_eq_false c5
                          clear c5
                          go_wp2
                          go_roundg k3
                          case measure => have := HK1.out; have := HK2.out; have := HK3.out; omega
                          case rel => exact ⟨wrap64 (x28 + 1), rfl, H1, ⟨by have := HK2.out; have := HK3.out; omega⟩, HS, BKa⟩
                  · rw [if_neg c4] at H
                    exact absurd H (by simp)
                · rw [if_neg c3] at H
                  have H1 := Aside0.mk H
                  clear H
                  have c3b0 : decide (x28 < (l0_1.length : Int)) = false := decide_eq_false c3
                  clear c3
                  go_wp2
                  go_roundg k2
                  case measure => have := HK1.out; have := HK2.out; omega
                  case rel => exact ⟨wrap64 (x21 + 1), rfl, H1, ⟨by have := HK1.out; have := HK2.out; omega⟩, HS⟩
          · rw [if_neg c2] at H
            exact absurd H (by simp)
        · rw [if_neg c1] at H
          simp only [Option.some.injEq, Prod.mk.injEq] at H
          obtain ⟨rfl, rfl, rfl, rfl⟩ := H
          have c1b0 : decide (x21 < (l0_1.length : Int)) = false := decide_eq_false c1
          clear c1
          have hne := HNE.out
          have hne2 := HNE.out.symm
          have hcr0 : wr.cell? ⟨gr, 0, none⟩ = some (.int .i64 0) := (blk_cell HS.out.r 0).trans rfl
          have hcr1 : wr.cell? ⟨gr, 1, none⟩ = some (.int .i64 0) := (blk_cell HS.out.r 1).trans rfl
          have hcr2 : wr.cell? ⟨gr, 2, none⟩ = some (.int .i64 0) := (blk_cell HS.out.r 2).trans rfl
          have hfr0 := blk_frozen HS.out.r 0
          have hfr1 := blk_frozen HS.out.r 1
          have hfr2 := blk_frozen HS.out.r 2
          go_wp2
          refine bodyPost_ret (results_ct rfl _ _ gr 50 #[.int .i64 0, .int .i64 0, .int .i64 0] (0, 0) _ rfl (by refine blk_put (cs := #[.int .i64 0, .int .i64 0, .int .i64 0]) ?_ 2 _ rfl; refine blk_put (cs := #[.int .i64 0, .int .i64 0, .int .i64 0]) ?_ 1 _ rfl; refine blk_put (cs := #[.int .i64 0, .int .i64 0, .int .i64 0]) ?_ 0 _ rfl; exact HS.out.r) Try.underlying50 rfl (by kernel_rfl)) rfl ?_
          exact ⟨rfl, by repeat (first | exact HS.out.B | refine below_set ?_ HGr.out)⟩
end Go.Proofs.Yteggmbhcnhbamaa.F
