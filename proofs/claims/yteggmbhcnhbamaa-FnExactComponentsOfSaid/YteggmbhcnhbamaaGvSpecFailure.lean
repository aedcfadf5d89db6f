/-
  spec.FirstFailure: the walk through its three loops: it answers as the plain function here says, and turns nothing that lay. No condition but that the plain function answers. (The kit's printer prints this function too; its print wants five minutes and falls at a return.)
-/
import Derived.Test.YteggmbhcnhbamaaFx1
import Derived.Test.YteggmbhcnhbamaaGvState
namespace Go.Proofs.Yteggmbhcnhbamaa.F
open Go.RowKit Go.Proofs.YteggmbhcnhbamaaW.PrintWords Go.Proofs.YteggmbhcnhbamaaW.PrintLast Go.Proofs.YteggmbhcnhbamaaW.PrintMore
set_option linter.unusedSimpArgs false
set_option linter.unusedVariables false
mutual
def spec_FirstFailure.l0 : Nat → Int → List Int → Int → Option (Int × Int × Int × Bool)
  | 0, _, _, _ => none
  | k + 1, n, l, x4 => if x4 < (l.length : Int) then (if 0 ≤ x4 then spec_FirstFailure.l1 k n l x4 0 else none) else some (0, 0, 0, false)
def spec_FirstFailure.l1 : Nat → Int → List Int → Int → Int → Option (Int × Int × Int × Bool)
  | 0, _, _, _, _ => none
  | k + 1, n, l, x4, x5 => if x5 < (l.length : Int) then (if 0 ≤ x5 then spec_FirstFailure.l2 k n l x4 x5 0 else none) else spec_FirstFailure.l0 k n l (wrap64 (x4 + 1))
def spec_FirstFailure.l2 : Nat → Int → List Int → Int → Int → Int → Option (Int × Int × Int × Bool)
  | 0, _, _, _, _, _ => none
  | k + 1, n, l, x4, x5, x6 =>
    if x6 < n then
      ((spec_l2Has.f (rd l x4) x6).bind fun t1 => if t1 = true then
        ((spec_l2Has.f (rd l x5) x6).bind fun t2 => if t2 = true then spec_FirstFailure.l2 k n l x4 x5 (wrap64 (x6 + 1))
          else ((spec_l4Exchange.f k n l (rd l x4) (rd l x5) x6).bind fun t3 => if t3 = true then spec_FirstFailure.l2 k n l x4 x5 (wrap64 (x6 + 1)) else some (rd l x4, rd l x5, x6, true)))
        else spec_FirstFailure.l2 k n l x4 x5 (wrap64 (x6 + 1)))
    else spec_FirstFailure.l1 k n l x4 (wrap64 (x5 + 1))
end
def spec_FirstFailure.f (k : Nat) (a0_0 : Int) (l0_1 : List Int) : Option (Int × Int × Int × Bool) :=
  (spec_IsFamily.f k a0_0 l0_1).bind fun t => if t = true then spec_FirstFailure.l0 k a0_0 l0_1 0 else some (0, 0, 0, false)
set_option maxHeartbeats 8000000 in
set_option maxRecDepth 100000 in
theorem spec_FirstFailure.calls (k : Nat) (a0_0 : Int) (A0_1 : Option Addr) (c0_1 : Nat) (l0_1 : List Int) (r1 : Int) (r2 : Int) (r3 : Int) (r4 : Bool) (w : World) (hr0_1 : Kd.C (Kd.int .i64) w A0_1 l0_1.length l0_1) (hc0_1 : l0_1.length ≤ c0_1) (h : spec_FirstFailure.f k a0_0 l0_1 = some (r1, r2, r3, r4)) :
    Calls Try.prog 75 #[.agg #[.int .i64 a0_0, .slice A0_1 l0_1.length c0_1]] w fun e w' => e = .returned (.tuple #[.agg #[.int .i64 r1, .int .i64 r2, .int .i64 r3], .bool r4]) ∧ Below w.heap.size w w' := by
  have hum := Try.underlying27
  have huf := Try.underlying50
  have HR := Aside0.mk hr0_1
  have HC := Aside0.mk hc0_1
  have HB := Aside0.mk (Below.refl w.heap.size w)
  clear hr0_1 hc0_1
  unfold spec_FirstFailure.f at h
  obtain ⟨t0, ht0, h⟩ := Option.bind_eq_some_iff.mp h
  have HT := Aside0.mk ht0
  clear ht0
  have H := Aside0.mk h
  clear h
  cases t0 with
  | false =>
    go_enter Try.func75, Try.ntmps75
    go_wp2_with (first
      | ((with_reducible refine gate_dst (N := 1) rfl ?_); refine box_event ?hg (N := 1) ?hd (cs := #[.int .i64 a0_0, .slice A0_1 l0_1.length c0_1]) (t := 27) ?hr ?_; (case hd => rfl); (case hg => rfl); (case hr => first | (go_simp; done) | (go_simp; rfl)); intro gm hg w4 hbox hb; have HB1 := Aside0.mk hb; have BKm := Aside0.mk hbox; have HG1 := Aside0.mk hg; clear hb hbox hg)
      | ((with_reducible refine gate_dst (N := 2) rfl ?_); refine box_event ?hg (N := 2) ?hd (cs := #[.int .i64 0, .int .i64 0, .int .i64 0]) (t := 50) ?hr ?_; (case hd => rfl); (case hg => rfl); (case hr => first | (go_simp; done) | (go_simp; rfl)); intro gr hg w5 hbox hb; have HG2 := Aside0.mk hg; have HGr := Aside0.mk (show w.heap.size ≤ gr from by rw [hg]; exact HB1.out.size); have HNE := Aside0.mk (show gm ≠ gr from by rw [hg]; exact Nat.ne_of_lt (blk_lt BKm.out)); have HS := Aside0.mk (FFS.mk (n := a0_0) (A := A0_1) (c := c0_1) (l := l0_1) (gm := gm) (gr := gr) (w0 := w) (blk_below BKm.out hb) hbox (Kd.C_below HR.out (below_step HB1.out hb)) (below_step HB1.out hb)); clear BKm HB1 hb hbox hg; have hcz0 : w5.cell? ⟨gm, 0, none⟩ = some (.int .i64 a0_0) := (blk_cell HS.out.m 0).trans rfl; have hcz1 : w5.cell? ⟨gm, 1, none⟩ = some (.slice A0_1 l0_1.length c0_1) := (blk_cell HS.out.m 1).trans rfl)
      | ((with_reducible refine gate_callee (f := 48) rfl ?_); refine goesL_ (some 13) rfl rfl Try.func48 (by kernel_rfl) rfl #[.int .i64 a0_0, .slice A0_1 l0_1.length c0_1] rfl (by (try simp only [List.map_toArray, List.map_cons, List.map_nil]); first | done | rfl) ?_; (with_reducible refine (spec_IsFamily.calls k a0_0 _ _ l0_1 false _ HS.out.C HC.out HT.out).mono ?_); rintro e w' ⟨rfl, ⟨nd, rfl⟩⟩; refine ⟨_, rfl, ?_⟩; generalize hw6 : w5.drewN nd = w6; have HS6 := Aside0.mk (HS.out.below (w2 := w6) (by rw [← hw6]; exact pw_below_drewN (Below.refl _ _) nd)); clear hw6 HS hcz0 hcz1; have HS := HS6; clear HS6; have hne := HNE.out; have hne2 := HNE.out.symm; have hcr0 : w6.cell? ⟨gr, 0, none⟩ = some (.int .i64 0) := (blk_cell HS.out.r 0).trans rfl; have hcr1 : w6.cell? ⟨gr, 1, none⟩ = some (.int .i64 0) := (blk_cell HS.out.r 1).trans rfl; have hcr2 : w6.cell? ⟨gr, 2, none⟩ = some (.int .i64 0) := (blk_cell HS.out.r 2).trans rfl; have hfr0 := blk_frozen HS.out.r 0; have hfr1 := blk_frozen HS.out.r 1; have hfr2 := blk_frozen HS.out.r 2))
    refine bodyPost_ret (results_ct rfl _ _ gr 50 #[.int .i64 0, .int .i64 0, .int .i64 0] (0, 0) _ rfl (by refine blk_put (cs := #[.int .i64 0, .int .i64 0, .int .i64 0]) ?_ 2 _ rfl; refine blk_put (cs := #[.int .i64 0, .int .i64 0, .int .i64 0]) ?_ 1 _ rfl; refine blk_put (cs := #[.int .i64 0, .int .i64 0, .int .i64 0]) ?_ 0 _ rfl; exact HS.out.r) Try.underlying50 rfl (by kernel_rfl)) rfl ?_
    have hh := H.out
    simp only [Bool.false_eq_true, if_false, Option.some.injEq, Prod.mk.injEq] at hh
    obtain ⟨rfl, rfl, rfl, rfl⟩ := hh
    exact ⟨rfl, by repeat (first | exact HS.out.B | refine below_set ?_ HGr.out)⟩
  | true =>
    go_enter Try.func75, Try.ntmps75
    go_wp2_with (first
      | ((with_reducible refine gate_dst (N := 1) rfl ?_); refine box_event ?hg (N := 1) ?hd (cs := #[.int .i64 a0_0, .slice A0_1 l0_1.length c0_1]) (t := 27) ?hr ?_; (case hd => rfl); (case hg => rfl); (case hr => first | (go_simp; done) | (go_simp; rfl)); intro gm hg w4 hbox hb; have HB1 := Aside0.mk hb; have BKm := Aside0.mk hbox; have HG1 := Aside0.mk hg; clear hb hbox hg)
      | ((with_reducible refine gate_dst (N := 2) rfl ?_); refine box_event ?hg (N := 2) ?hd (cs := #[.int .i64 0, .int .i64 0, .int .i64 0]) (t := 50) ?hr ?_; (case hd => rfl); (case hg => rfl); (case hr => first | (go_simp; done) | (go_simp; rfl)); intro gr hg w5 hbox hb; have HG2 := Aside0.mk hg; have HGr := Aside0.mk (show w.heap.size ≤ gr from by rw [hg]; exact HB1.out.size); have HNE := Aside0.mk (show gm ≠ gr from by rw [hg]; exact Nat.ne_of_lt (blk_lt BKm.out)); have HS := Aside0.mk (FFS.mk (n := a0_0) (A := A0_1) (c := c0_1) (l := l0_1) (gm := gm) (gr := gr) (w0 := w) (blk_below BKm.out hb) hbox (Kd.C_below HR.out (below_step HB1.out hb)) (below_step HB1.out hb)); clear BKm HB1 hb hbox hg; have hcz0 : w5.cell? ⟨gm, 0, none⟩ = some (.int .i64 a0_0) := (blk_cell HS.out.m 0).trans rfl; have hcz1 : w5.cell? ⟨gm, 1, none⟩ = some (.slice A0_1 l0_1.length c0_1) := (blk_cell HS.out.m 1).trans rfl)
      | ((with_reducible refine gate_callee (f := 48) rfl ?_); refine goesL_ (some 13) rfl rfl Try.func48 (by kernel_rfl) rfl #[.int .i64 a0_0, .slice A0_1 l0_1.length c0_1] rfl (by (try simp only [List.map_toArray, List.map_cons, List.map_nil]); first | done | rfl) ?_; (with_reducible refine (spec_IsFamily.calls k a0_0 _ _ l0_1 true _ HS.out.C HC.out HT.out).mono ?_); rintro e w' ⟨rfl, ⟨nd, rfl⟩⟩; refine ⟨_, rfl, ?_⟩; generalize hw6 : w5.drewN nd = w6; have HS6 := Aside0.mk (HS.out.below (w2 := w6) (by rw [← hw6]; exact pw_below_drewN (Below.refl _ _) nd)); clear hw6 HS hcz0 hcz1; have HS := HS6; clear HS6; have hcz1 : w6.cell? ⟨gm, 1, none⟩ = some (.slice A0_1 l0_1.length c0_1) := (blk_cell HS.out.m 1).trans rfl))
    have H0 := Aside0.mk (show spec_FirstFailure.l0 k a0_0 l0_1 0 = some (r1, r2, r3, r4) by have hh := H.out; simpa using hh)
    clear H hcz1
    go_loopg [4] k (fun kq v4 w' => ∃ (x4 : Int), v4 = .int .i64 x4 ∧ Aside0 (spec_FirstFailure.l0 kq a0_0 l0_1 x4 = some (r1, r2, r3, r4)) ∧ Aside0 (kq ≤ k) ∧ Aside0 (FFS w w' gm gr a0_0 A0_1 c0_1 l0_1))
    case atStart => exact ⟨0, rfl, H0, ⟨Nat.le_refl _⟩, HS⟩
    case round =>
      clear H0 HS HB HG1 HG2
      obtain ⟨x4, rfl, HA, HK1, HS⟩ := hrel
      cases gk with
      | zero => exact absurd HA.out (by simp [spec_FirstFailure.l0])
      | succ k1 =>
        have H := HA.out
        clear HA
        simp only [spec_FirstFailure.l0] at H
        by_cases c1 : x4 < (l0_1.length : Int)
        · rw [if_pos c1] at H
          by_cases c2 : 0 ≤ x4
          · rw [if_pos c2] at H
            have H1 := Aside0.mk H
            clear H
            obtain ⟨ad1, e1, hx1⟩ := Kd.at_int HS.out.C x4 c2 c1
            cases e1
            clear hx1
            have c1b0 : decide (x4 < (l0_1.length : Int)) = true := decide_eq_true c1
            have C1 := Aside0.mk (eq_true c1)
            have C2 := Aside0.mk (eq_true c2)
            clear c1 c2
            have hcz1 : wr.cell? ⟨gm, 1, none⟩ = some (.slice (some ad1) l0_1.length c0_1) := (blk_cell HS.out.m 1).trans rfl
            go_wp2
            clear hcz1 c1b0
            go_loopg [5] k1 (fun kq v5 w' => ∃ (x5 : Int), v5 = .int .i64 x5 ∧ Aside0 (spec_FirstFailure.l1 kq a0_0 l0_1 x4 x5 = some (r1, r2, r3, r4)) ∧ Aside0 (kq ≤ k1) ∧ Aside0 (FFS w w' gm gr a0_0 (some ad1) c0_1 l0_1))
            case atStart => exact ⟨0, rfl, H1, ⟨Nat.le_refl _⟩, HS⟩
            case round =>
              clear H1 HS
              obtain ⟨x5, rfl, HA, HK2, HS⟩ := hrel
              cases gk with
              | zero => exact absurd HA.out (by simp [spec_FirstFailure.l1])
              | succ k2 =>
                have H := HA.out
                clear HA
                simp only [spec_FirstFailure.l1] at H
                by_cases c3 : x5 < (l0_1.length : Int)
                · rw [if_pos c3] at H
                  by_cases c4 : 0 ≤ x5
                  · rw [if_pos c4] at H
                    have H1 := Aside0.mk H
                    clear H
                    have c3b0 : decide (x5 < (l0_1.length : Int)) = true := decide_eq_true c3
                    have C3 := Aside0.mk (eq_true c3)
                    have C4 := Aside0.mk (eq_true c4)
                    clear c3 c4
                    have hcz1 : wr.cell? ⟨gm, 1, none⟩ = some (.slice (some ad1) l0_1.length c0_1) := (blk_cell HS.out.m 1).trans rfl
                    go_wp2
                    clear hcz1 c3b0
                    go_loopg [6] k2 (fun kq v6 w' => ∃ (x6 : Int), v6 = .int .i64 x6 ∧ Aside0 (spec_FirstFailure.l2 kq a0_0 l0_1 x4 x5 x6 = some (r1, r2, r3, r4)) ∧ Aside0 (kq ≤ k2) ∧ Aside0 (FFS w w' gm gr a0_0 (some ad1) c0_1 l0_1))
                    case atStart => exact ⟨0, rfl, H1, ⟨Nat.le_refl _⟩, HS⟩
                    case round =>
                      clear H1 HS
                      obtain ⟨x6, rfl, HA, HK3, HS⟩ := hrel
                      cases gk with
                      | zero => exact absurd HA.out (by simp [spec_FirstFailure.l2])
                      | succ k3 =>
                        have H := HA.out
                        clear HA
                        simp only [spec_FirstFailure.l2] at H
                        by_cases c6 : x6 < a0_0
                        · rw [if_pos c6] at H
                          obtain ⟨t1, ht1, H⟩ := Option.bind_eq_some_iff.mp H
                          have A1 := Aside0.mk ht1
                          clear ht1
                          have c6b0 : decide (x6 < a0_0) = true := decide_eq_true c6
                          replace c6 := eq_true c6
                          have hcz0 : wr.cell? ⟨gm, 0, none⟩ = some (.int .i64 a0_0) := (blk_cell HS.out.m 0).trans rfl
                          have hcz1 : wr.cell? ⟨gm, 1, none⟩ = some (.slice (some ad1) l0_1.length c0_1) := (blk_cell HS.out.m 1).trans rfl
                          obtain ⟨adx, ex, hx1⟩ := Kd.at_int HS.out.C x4 (of_eq_true C2.out) (of_eq_true C1.out)
                          cases ex
                          obtain ⟨ady, ey, hx2⟩ := Kd.at_int HS.out.C x5 (of_eq_true C4.out) (of_eq_true C3.out)
                          cases ey
                          have c1 := C1.out
                          have c2 := C2.out
                          have c3 := C3.out
                          have c4 := C4.out
                          have c1b0 : decide (x4 < (l0_1.length : Int)) = true := decide_eq_true (of_eq_true c1)
                          have c2b0 : decide (0 ≤ x4) = true := decide_eq_true (of_eq_true c2)
                          have c3b0 : decide (x5 < (l0_1.length : Int)) = true := decide_eq_true (of_eq_true c3)
                          have c4b0 : decide (0 ≤ x5) = true := decide_eq_true (of_eq_true c4)
                          cases t1 with
                          | false =>
                            have H1 := Aside0.mk (show spec_FirstFailure.l2 k3 a0_0 l0_1 x4 x5 (wrap64 (x6 + 1)) = some (r1, r2, r3, r4) by simpa using H)
                            clear H
                            go_wp2_with (go_at_call 39; (try simp only [i64_w, i32_w]); (with_reducible refine (spec_l2Has.calls (rd l0_1 x4) x6 false _ A1.out).mono ?_); rintro e w' ⟨rfl, ⟨nd1, rfl⟩⟩)
                            go_roundg k3
                            case measure => have := HK1.out; have := HK2.out; have := HK3.out; omega
                            case rel => exact ⟨wrap64 (x6 + 1), rfl, H1, ⟨by have := HK3.out; omega⟩, ⟨HS.out.below (by repeat (first | exact Below.refl _ _ | apply pw_below_drewN | apply below_drew1))⟩⟩
                          | true =>
                            have H' : ((spec_l2Has.f (rd l0_1 x5) x6).bind fun t2 => if t2 = true then spec_FirstFailure.l2 k3 a0_0 l0_1 x4 x5 (wrap64 (x6 + 1)) else ((spec_l4Exchange.f k3 a0_0 l0_1 (rd l0_1 x4) (rd l0_1 x5) x6).bind fun t3 => if t3 = true then spec_FirstFailure.l2 k3 a0_0 l0_1 x4 x5 (wrap64 (x6 + 1)) else some (rd l0_1 x4, rd l0_1 x5, x6, true))) = some (r1, r2, r3, r4) := by simpa using H
                            clear H
                            obtain ⟨t2, ht2, H⟩ := Option.bind_eq_some_iff.mp H'
                            have A2 := Aside0.mk ht2
                            clear ht2 H'
                            cases t2 with
                            | true =>
                              have H1 := Aside0.mk (show spec_FirstFailure.l2 k3 a0_0 l0_1 x4 x5 (wrap64 (x6 + 1)) = some (r1, r2, r3, r4) by simpa using H)
                              clear H
                              go_wp2_with (first | (go_at_call 39; (try simp only [i64_w, i32_w]); (with_reducible refine (spec_l2Has.calls (rd l0_1 x4) x6 true _ A1.out).mono ?_); rintro e w' ⟨rfl, ⟨nd1, rfl⟩⟩) | (go_at_call 39; (try simp only [i64_w, i32_w]); (with_reducible refine (spec_l2Has.calls (rd l0_1 x5) x6 true _ A2.out).mono ?_); rintro e w' ⟨rfl, ⟨nd2, rfl⟩⟩))
                              go_roundg k3
                              case measure => have := HK1.out; have := HK2.out; have := HK3.out; omega
                              case rel => exact ⟨wrap64 (x6 + 1), rfl, H1, ⟨by have := HK3.out; omega⟩, ⟨HS.out.below (by repeat (first | exact Below.refl _ _ | apply pw_below_drewN | apply below_drew1))⟩⟩
                            | false =>
                              have H' : ((spec_l4Exchange.f k3 a0_0 l0_1 (rd l0_1 x4) (rd l0_1 x5) x6).bind fun t3 => if t3 = true then spec_FirstFailure.l2 k3 a0_0 l0_1 x4 x5 (wrap64 (x6 + 1)) else some (rd l0_1 x4, rd l0_1 x5, x6, true)) = some (r1, r2, r3, r4) := by simpa using H
                              clear H
                              obtain ⟨t3, ht3, H⟩ := Option.bind_eq_some_iff.mp H'
                              have A3 := Aside0.mk ht3
                              clear ht3 H'
                              cases t3 with
                              | true =>
                                have H1 := Aside0.mk (show spec_FirstFailure.l2 k3 a0_0 l0_1 x4 x5 (wrap64 (x6 + 1)) = some (r1, r2, r3, r4) by simpa using H)
                                clear H
                                go_wp2_with (first | (go_at_call 39; (try simp only [i64_w, i32_w]); (with_reducible refine (spec_l2Has.calls (rd l0_1 x4) x6 true _ A1.out).mono ?_); rintro e w' ⟨rfl, ⟨nd1, rfl⟩⟩) | (go_at_call 39; (try simp only [i64_w, i32_w]); (with_reducible refine (spec_l2Has.calls (rd l0_1 x5) x6 false _ A2.out).mono ?_); rintro e w' ⟨rfl, ⟨nd2, rfl⟩⟩) | (go_at_call 108; (try simp only [i64_w, i32_w]); (with_reducible refine (spec_l4Exchange.calls k3 a0_0 _ _ l0_1 (rd l0_1 x4) (rd l0_1 x5) x6 true _ ?side1 HC.out A3.out).mono ?_); (case side1 => repeat (first | exact HS.out.C | (with_reducible refine Kd.C_drewN ?_ _) | (with_reducible refine Kd.C_drew ?_))); rintro e w9 ⟨rfl, hb⟩; have HS9 := Aside0.mk ((HS.out.below (below_then (pw_below_drewN (Below.refl _ _) _) (below_size (pw_below_drewN (Below.refl _ _) _)) (Below.refl _ _))).below hb); clear hb HS hx1 hx2 hcz0 hcz1; have HS := HS9; clear HS9))
                                go_roundg k3
                                case measure => have := HK1.out; have := HK2.out; have := HK3.out; omega
                                case rel => exact ⟨wrap64 (x6 + 1), rfl, H1, ⟨by have := HK3.out; omega⟩, HS⟩
                              | false =>
                                have hh : (rd l0_1 x4, rd l0_1 x5, x6, true) = (r1, r2, r3, r4) := by simpa using H
                                clear H
                                simp only [Prod.mk.injEq] at hh
                                obtain ⟨rfl, rfl, rfl, rfl⟩ := hh
                                have hne := HNE.out
                                have hne2 := HNE.out.symm
                                go_wp2_with (first | (go_at_call 39; (try simp only [i64_w, i32_w]); (with_reducible refine (spec_l2Has.calls (rd l0_1 x4) x6 true _ A1.out).mono ?_); rintro e w' ⟨rfl, ⟨nd1, rfl⟩⟩) | (go_at_call 39; (try simp only [i64_w, i32_w]); (with_reducible refine (spec_l2Has.calls (rd l0_1 x5) x6 false _ A2.out).mono ?_); rintro e w' ⟨rfl, ⟨nd2, rfl⟩⟩) | (go_at_call 108; (try simp only [i64_w, i32_w]); (with_reducible refine (spec_l4Exchange.calls k3 a0_0 _ _ l0_1 (rd l0_1 x4) (rd l0_1 x5) x6 false _ ?side1 HC.out A3.out).mono ?_); (case side1 => repeat (first | exact HS.out.C | (with_reducible refine Kd.C_drewN ?_ _) | (with_reducible refine Kd.C_drew ?_))); rintro e w9 ⟨rfl, hb⟩; have HS9 := Aside0.mk ((HS.out.below (below_then (pw_below_drewN (Below.refl _ _) _) (below_size (pw_below_drewN (Below.refl _ _) _)) (Below.refl _ _))).below hb); clear hb HS hx1 hx2 hcz0 hcz1; have HS := HS9; clear HS9; have hcr0 : w9.cell? ⟨gr, 0, none⟩ = some (.int .i64 0) := (blk_cell HS.out.r 0).trans rfl; have hcr1 : w9.cell? ⟨gr, 1, none⟩ = some (.int .i64 0) := (blk_cell HS.out.r 1).trans rfl; have hcr2 : w9.cell? ⟨gr, 2, none⟩ = some (.int .i64 0) := (blk_cell HS.out.r 2).trans rfl; have hfr0 := blk_frozen HS.out.r 0; have hfr1 := blk_frozen HS.out.r 1; have hfr2 := blk_frozen HS.out.r 2))
                                refine bodyPost_ret (results_ct rfl _ _ gr 50 #[.int .i64 (rd l0_1 x4), .int .i64 (rd l0_1 x5), .int .i64 x6] (0, 0) _ rfl (by (with_reducible repeat (first | refine blk_drewN ?_ _ | refine blk_drew ?_)); refine blk_put (cs := #[.int .i64 (rd l0_1 x4), .int .i64 (rd l0_1 x5), .int .i64 0]) ?_ 2 _ rfl; refine blk_put (cs := #[.int .i64 (rd l0_1 x4), .int .i64 0, .int .i64 0]) ?_ 1 _ rfl; refine blk_put (cs := #[.int .i64 0, .int .i64 0, .int .i64 0]) ?_ 0 _ rfl; (with_reducible repeat (first | refine blk_drewN ?_ _ | refine blk_drew ?_)); exact HS.out.r) Try.underlying50 rfl (by kernel_rfl)) rfl ?_
                                exact ⟨rfl, by repeat (first | exact HS.out.B | refine below_set ?_ HGr.out)⟩
                        · rw [if_neg c6] at H
                          have H1 := Aside0.mk H
                          clear H
                          have c6b0 : decide (x6 < a0_0) = false := decide_eq_false c6
                          clear c6
                          have hcz0 : wr.cell? ⟨gm, 0, none⟩ = some (.int .i64 a0_0) := (blk_cell HS.out.m 0).trans rfl
                          go_wp2
                          go_roundg k3
                          case measure => have := HK1.out; have := HK2.out; have := HK3.out; omega
                          case rel => exact ⟨wrap64 (x5 + 1), rfl, H1, ⟨by have := HK2.out; have := HK3.out; omega⟩, HS⟩
                  · rw [if_neg c4] at H
                    exact absurd H (by simp)
                · rw [if_neg c3] at H
                  have H1 := Aside0.mk H
                  clear H
                  have c3b0 : decide (x5 < (l0_1.length : Int)) = false := decide_eq_false c3
                  clear c3
                  have hcz1 : wr.cell? ⟨gm, 1, none⟩ = some (.slice (some ad1) l0_1.length c0_1) := (blk_cell HS.out.m 1).trans rfl
                  go_wp2
                  go_roundg k2
                  case measure => have := HK1.out; have := HK2.out; omega
                  case rel => exact ⟨wrap64 (x4 + 1), rfl, H1, ⟨by have := HK1.out; have := HK2.out; omega⟩, HS⟩
          · rw [if_neg c2] at H
            exact absurd H (by simp)
        · rw [if_neg c1] at H
          simp only [Option.some.injEq, Prod.mk.injEq] at H
          obtain ⟨rfl, rfl, rfl, rfl⟩ := H
          have c1b0 : decide (x4 < (l0_1.length : Int)) = false := decide_eq_false c1
          clear c1
          have hcz1 : wr.cell? ⟨gm, 1, none⟩ = some (.slice A0_1 l0_1.length c0_1) := (blk_cell HS.out.m 1).trans rfl
          have hne := HNE.out
          have hne2 := HNE.out.symm
          have hcr0 : wr.cell? ⟨gr, 0, none⟩ = some (.int .i64 0) := (blk_cell HS.out.r 0).trans rfl
          have hcr1 : wr.cell? ⟨gr, 1, none⟩ = some (.int .i64 0) := (blk_cell HS.out.r 1).trans rfl
          have hcr2 : wr.cell? ⟨gr, 2, none⟩ = some (.int .i64 0) := (blk_cell HS.out.r 2).trans rfl
          have hfr0 := blk_frozen HS.out.r 0
          have hfr1 := blk_frozen HS.out.r 1
          have hfr2 := blk_frozen HS.out.r 2
          go_wp2
          refine bodyPost_ret (results_ct rfl _ _ gr 50 #[.int .i64 0, .int .i64 0, .int .i64 0] (0, 0) _ rfl (by (with_reducible repeat (first | refine blk_drewN ?_ _ | refine blk_drew ?_)); refine blk_put (cs := #[.int .i64 0, .int .i64 0, .int .i64 0]) ?_ 2 _ rfl; refine blk_put (cs := #[.int .i64 0, .int .i64 0, .int .i64 0]) ?_ 1 _ rfl; refine blk_put (cs := #[.int .i64 0, .int .i64 0, .int .i64 0]) ?_ 0 _ rfl; (with_reducible repeat (first | refine blk_drewN ?_ _ | refine blk_drew ?_)); exact HS.out.r) Try.underlying50 rfl (by kernel_rfl)) rfl ?_
          exact ⟨rfl, by repeat (first | exact HS.out.B | refine below_set ?_ HGr.out)⟩
end Go.Proofs.Yteggmbhcnhbamaa.F
