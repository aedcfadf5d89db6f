/- Several texts of this session in one: Fx43, Fx44, Fx12, Fx16, Bits, Loops, LSets, Mat, LFamily, LMatroid, LRank, LSetsOf, LFlats, LSortSets, LSubset. Conditions: as each theorem says. -/
import Derived.Test.YtmeopnlkddflaaaZCoveringFlats0
import Derived.Test.YtmeopnlkddflaaaZCoveringFlats4
import Derived.Test.YtmeopnlkddflaaaZCoveringFlats1
import Derived.Test.YtmeopnlkddflaaaZCoveringFlats2
import Derived.Laws.BitsLemmas
import Derived.Test.YtmeopnlkddflaaaZCoveringFlats3
section
namespace Go.Proofs.Ytmeopnlkddflaaa.F
open Go.RowKit Go.Proofs.YtmeopnlkddflaaaW.PrintWords Go.Proofs.YtmeopnlkddflaaaW.PrintLast Go.Proofs.YtmeopnlkddflaaaW.PrintMore
attribute [local go_sem] max2_int min2_int max_two min_two max_three min_three max_four min_four   -- for this text's walks alone
set_option linter.unusedVariables false
set_option linter.unusedSimpArgs false

def impl_CoveringFlats.l0 : Nat → Int → List Int → List Int → Int → Int → Option (List Int)
  | 0, _, _, _, _, _ => none
  | k + 1, x1, x5, x14, x15, x16 => if x16 < x15 then (if 0 ≤ x16 then (if x16 < (x14.length : Int) then (if (rd x14 x16) = x1 then (impl_CoveringFlats.l0 k x1 x5 x14 x15 (wrap64 (x16 + 1))) else ((impl_IsSubset.f x1 (rd x14 x16)).bind fun t582 => (if t582 = true then (if x5.length < 17592186044416 then (impl_CoveringFlats.l0 k x1 (x5 ++ [rd x14 x16]) x14 x15 (wrap64 (x16 + 1))) else (none)) else (impl_CoveringFlats.l0 k x1 x5 x14 x15 (wrap64 (x16 + 1)))))) else (none)) else (none)) else ((impl_MinimalSets.f k x5).bind fun t586 => (some t586))
def impl_CoveringFlats.f (k : Nat) (a0_0 : Int) (l0_1 : List Int) (a1 : Int) : Option (List Int) := (impl_isFlat.f k a0_0 l0_1 a1).bind fun t574 => (if t574 = true then ((impl_flatsIn.f k a0_0 l0_1).bind fun t578 => (impl_CoveringFlats.l0 k a1 (([] : List Int)) t578 (t578.length : Int) 0)) else (some ([] : List Int)))
set_option maxHeartbeats 8000000 in
set_option maxRecDepth 100000 in
theorem impl_CoveringFlats.calls (k : Nat) (a0_0 : Int) (A0_1 : Option Addr) (c0_1 : Nat) (l0_1 : List Int) (a1 : Int) (r : List Int) (w : World) (hr0_1 : Kd.C (Kd.int .i64) w A0_1 l0_1.length l0_1) (hc0_1 : l0_1.length ≤ c0_1) (h : impl_CoveringFlats.f k a0_0 l0_1 a1 = some r) :
    Calls Try.prog 38 #[.agg #[.int .i64 a0_0, .slice A0_1 l0_1.length c0_1], .int .i64 a1] w fun e w' => ∃ v0_ : Value, e = .returned (v0_) ∧ Kd.R (Kd.int .i64) 3 w' w.heap.size (fun _ => True) v0_ r ∧ Below w.heap.size w w' := by
  have hu27 := Try.underlying27
  have HR0_1 := Aside0.mk hr0_1
  have HC0_1 := Aside0.mk hc0_1
  clear hr0_1 hc0_1
  have HB := Aside0.mk (Below.refl w.heap.size w)
  have H : ((impl_isFlat.f k a0_0 l0_1 a1).bind fun t574 => (if t574 = true then ((impl_flatsIn.f k a0_0 l0_1).bind fun t578 => (impl_CoveringFlats.l0 k a1 (([] : List Int)) t578 (t578.length : Int) 0)) else (some ([] : List Int)))) = some r := h
  clear h
  replace H := Option.bind_eq_some_iff.mp H
  obtain ⟨t574, A30, H⟩ := H
  replace H : (if t574 = true then ((impl_flatsIn.f k a0_0 l0_1).bind fun t578 => (impl_CoveringFlats.l0 k a1 (([] : List Int)) t578 (t578.length : Int) 0)) else (some ([] : List Int))) = some r := H
  have A3 := Aside0.mk A30
  clear A30
  by_cases c4 : t574 = true
  · subst c4
    have H1 : ((impl_flatsIn.f k a0_0 l0_1).bind fun t578 => (impl_CoveringFlats.l0 k a1 (([] : List Int)) t578 (t578.length : Int) 0)) = some r := by rw [if_pos rfl] at H; exact H
    clear H
    have H := H1
    clear H1
    obtain ⟨y575, hy575⟩ : ∃ y_ : List Int, y_ = (([] : List Int)) := ⟨_, rfl⟩
    replace H : ((impl_flatsIn.f k a0_0 l0_1).bind fun t578 => (impl_CoveringFlats.l0 k a1 y575 t578 (t578.length : Int) 0)) = some r := by first | (rw [hy575]; with_reducible exact H) | (have H2_ := (Option.bind_some _ _).symm.trans H; rw [hy575]; with_reducible exact H2_) | (have H2_ := (Option.bind_some _ _).symm.trans H; with_reducible exact H2_) | with_reducible exact H | (rw [hy575]; exact H) | exact H
    have Ny575 := Aside0.mk hy575
    clear hy575
    replace H := Option.bind_eq_some_iff.mp H
    obtain ⟨t578, A50, H⟩ := H
    replace H : (impl_CoveringFlats.l0 k a1 y575 t578 (t578.length : Int) 0) = some r := H
    have A5 := Aside0.mk A50
    clear A50
    have H' := Aside0.mk H
    clear H
    go_enter Try.func38, Try.ntmps38
    go_wp2_with (first | ((with_reducible refine gate_dst (N := 2) rfl ?_); refine box_event ?hg (N := 2) ?hd (cs := #[.int .i64 a0_0, .slice A0_1 l0_1.length c0_1]) (t := 27) ?hr ?_; (case hd => rfl); (case hg => rfl); (case hr => first | (go_simp; done) | (go_simp; rfl)); intro gb573 hg w6 hbox hb; have n0_ := Aside0.mk (below_step (by repeat (first | (with_reducible first | exact HB.out | apply below_alloc | apply pw_below_drewN | apply below_drew1) | exact HB.out)) hb); have n1_ := Aside0.mk (hbox); have n2_ := Aside0.mk ((by rw [hg]; exact (below_size (by repeat (first | (with_reducible first | exact HB.out | apply below_alloc | apply pw_below_drewN | apply below_drew1) | exact HB.out))) : w.heap.size ≤ gb573)); have n3_ := Aside0.mk ((by rw [hg]; exact (below_size (by repeat (first | (with_reducible first | exact HB.out | apply below_alloc | apply pw_below_drewN | apply below_drew1) | exact HB.out))) : w.heap.size ≤ gb573)); clear HB; have HB := n0_; have BK573 := n1_; have GW573 := n2_; have GE573 := n3_; clear n0_ n1_ n2_ n3_; clear hb hbox hg; have hcz7_0 : w6.cell? ⟨gb573, 0, none⟩ = some (.int .i64 a0_0) := (blk_cell BK573.out 0).trans rfl; have hcz7_1 : w6.cell? ⟨gb573, 1, none⟩ = some (.slice A0_1 l0_1.length c0_1) := (blk_cell BK573.out 1).trans rfl; have hfz7_0 := blk_frozen BK573.out 0; have hfz7_1 := blk_frozen BK573.out 1) | ((with_reducible refine gate_callee (f := 63) rfl ?_); refine goesL_ (some 10) rfl rfl Try.func63 (by kernel_rfl) rfl #[.agg #[.int .i64 a0_0, .slice A0_1 l0_1.length c0_1], .int .i64 a1] rfl (by (try simp only [List.map_toArray, List.map_cons, List.map_nil]); first | done | rfl | (simp only [List.length_drop, List.length_take]; rfl)) ?_; (with_reducible refine (impl_isFlat.calls k a0_0 _ _ l0_1 a1 true _ ?side1 ?side2 A3.out).mono ?_); (case side1 => repeat (first | exact (Kd.C_below HR0_1.out HB.out) | (with_reducible refine Kd.C_alloc ?_ _) | (with_reducible refine Kd.C_drewN ?_ _) | (with_reducible refine Kd.C_drew ?_))); (case side2 => exact HC0_1.out); rintro e w8 ⟨rfl, hb⟩; refine ⟨_, rfl, ?_⟩; have n0_ := Aside0.mk (blk_below (g := gb573) (o := .cells #[.int .i64 a0_0, .slice A0_1 l0_1.length c0_1] 27 (0, 0)) (by (with_reducible repeat (first | refine blk_drewN ?_ _ | refine blk_drew ?_ | refine blk_alloc ?_ _)); exact BK573.out) hb); have n1_ := Aside0.mk (below_step (by repeat (first | (with_reducible first | exact HB.out | apply below_alloc | apply pw_below_drewN | apply below_drew1 | refine below_set ?_ GE573.out) | exact HB.out)) hb); clear BK573; clear HB; have BK573 := n0_; have HB := n1_; clear n0_ n1_; (try clear hb); (try clear hb2); (try clear hk); (try clear hi)) | ((with_reducible refine gate_dst (N := 12) rfl ?_); refine Kd.R_lit (Kd.int .i64) _ 3 ?hg (N := 12) ?hd (xs := ([] : List Int)) (inner := []) (ok := fun _ => True) (okp := fun _ => True) ?hr ?hp (fun _ hk => hk) trivial (Below.refl _ _) (Nat.le_refl _) (by simp) ?_; (case hd => rfl); (case hg => rfl); (case hr => first | (go_simp; done) | (go_simp; rfl)); (case hp => exact (Reps.none _ _)); intro v576 w9 ho10 hb hg_ hnew_; clear hg_ hnew_; (first | rw [← Ny575.out] at ho10 | (simp only [Int.reduceToNat] at ho10; rw [← Ny575.out] at ho10)); have n0_ := Aside0.mk (Kd.R_lower ho10 (below_size (by repeat (first | (with_reducible first | exact HB.out | apply below_alloc | apply pw_below_drewN | apply below_drew1 | refine below_set ?_ GE573.out) | exact HB.out)))); have n1_ := Aside0.mk (blk_below (g := gb573) (o := .cells #[.int .i64 a0_0, .slice A0_1 l0_1.length c0_1] 27 (0, 0)) (by (with_reducible repeat (first | refine blk_drewN ?_ _ | refine blk_drew ?_ | refine blk_alloc ?_ _)); exact BK573.out) hb); have n2_ := Aside0.mk (below_step (by repeat (first | (with_reducible first | exact HB.out | apply below_alloc | apply pw_below_drewN | apply below_drew1 | refine below_set ?_ GE573.out) | exact HB.out)) hb); clear BK573; clear HB; have HO577 := n0_; have BK573 := n1_; have HB := n2_; clear n0_ n1_ n2_; clear hb ho10; have hcz11_0 : w9.cell? ⟨gb573, 0, none⟩ = some (.int .i64 a0_0) := (blk_cell BK573.out 0).trans rfl; have hcz11_1 : w9.cell? ⟨gb573, 1, none⟩ = some (.slice A0_1 l0_1.length c0_1) := (blk_cell BK573.out 1).trans rfl; have hfz11_0 := blk_frozen BK573.out 0; have hfz11_1 := blk_frozen BK573.out 1) | ((with_reducible refine gate_callee (f := 53) rfl ?_); refine goesL_ (some 14) rfl rfl Try.func53 (by kernel_rfl) rfl #[.agg #[.int .i64 a0_0, .slice A0_1 l0_1.length c0_1]] rfl (by (try simp only [List.map_toArray, List.map_cons, List.map_nil]); first | done | rfl | (simp only [List.length_drop, List.length_take]; rfl)) ?_; (with_reducible refine (impl_flatsIn.calls k a0_0 _ _ l0_1 t578 _ ?side1 ?side2 A5.out).mono ?_); (case side1 => repeat (first | exact (Kd.C_below HR0_1.out HB.out) | (with_reducible refine Kd.C_alloc ?_ _) | (with_reducible refine Kd.C_drewN ?_ _) | (with_reducible refine Kd.C_drew ?_))); (case side2 => exact HC0_1.out); rintro e w12 ⟨v579, rfl, ho0, hb⟩; refine ⟨_, rfl, ?_⟩; have n0_ := Aside0.mk (Kd.R_elder' (by (with_reducible repeat (first | apply Kd.R_alloc | apply Kd.R_drewN | apply Kd.R_drew)); exact HO577.out) (Kd.R_base ho0) hb); have n1_ := Aside0.mk (Kd.R_lower (Kd.R_new' ho0 (Kd.R_lt (by (with_reducible repeat (first | apply Kd.R_alloc | apply Kd.R_drewN | apply Kd.R_drew)); exact HO577.out))) (below_size (by repeat (first | (with_reducible first | exact HB.out | apply below_alloc | apply pw_below_drewN | apply below_drew1 | refine below_set ?_ GE573.out) | exact HB.out)))); have n2_ := Aside0.mk (blk_below (g := gb573) (o := .cells #[.int .i64 a0_0, .slice A0_1 l0_1.length c0_1] 27 (0, 0)) (by (with_reducible repeat (first | refine blk_drewN ?_ _ | refine blk_drew ?_ | refine blk_alloc ?_ _)); exact BK573.out) hb); have n3_ := Aside0.mk (below_step (by repeat (first | (with_reducible first | exact HB.out | apply below_alloc | apply pw_below_drewN | apply below_drew1 | refine below_set ?_ GE573.out) | exact HB.out)) hb); clear HO577; clear BK573; clear HB; have HO577 := n0_; have HO580 := n1_; have BK573 := n2_; have HB := n3_; clear n0_ n1_ n2_ n3_; (try clear hb); (try clear hb2); (try clear hk); (try clear hi); (try clear ho0); obtain ⟨Ao13, co13, eo13⟩ := Kd.R_slice HO580.out; subst eo13))
    go_loopg [5, 16] k (fun kq v5 v16 w' => ∃ (x5_1 : List Int) (x16_1 : Int), v16 = .int .i64 x16_1 ∧ Aside0 (impl_CoveringFlats.l0 kq a1 x5_1 t578 (t578.length : Int) x16_1 = some r) ∧ Aside0 (kq ≤ k) ∧ Aside0 (Kd.R (Kd.int .i64) 3 w' w.heap.size (fun k_ => some k_ ≠ ((.slice Ao13 t578.length co13) : Value).ownBlock) v5 x5_1) ∧ Aside0 (Kd.R (Kd.int .i64) 3 w' w.heap.size (fun k_ => some k_ ≠ (v5 : Value).ownBlock) (.slice Ao13 t578.length co13) t578) ∧ Aside0 (w'.heap[gb573]? = some (.cells #[.int .i64 a0_0, (.slice A0_1 l0_1.length c0_1)] 27 (0, 0))) ∧ Aside0 (Below w.heap.size w w'))
    case atStart => exact ⟨(y575), (0), (by first | rfl | (simp; done) | (simp [*]; done)), H', ⟨Nat.le_refl _⟩, ⟨by (with_reducible repeat (first | apply Kd.R_alloc | apply Kd.R_drewN | apply Kd.R_drew)); exact Kd.R_mono HO577.out (fun _ hk => hk.2)⟩, ⟨by (with_reducible repeat (first | apply Kd.R_alloc | apply Kd.R_drewN | apply Kd.R_drew)); exact Kd.R_mono HO580.out (fun _ hk => hk.2)⟩, ⟨by (with_reducible repeat (first | refine blk_drewN ?_ _ | refine blk_drew ?_ | refine blk_alloc ?_ _)); exact BK573.out⟩, ⟨by repeat (first | (with_reducible first | exact HB.out | apply below_alloc | apply pw_below_drewN | apply below_drew1 | refine below_set ?_ GE573.out) | exact HB.out)⟩⟩
    case round =>
      clear H'
      try clear p2
      try clear c3
      try clear c4
      try clear c5
      try clear c6
      try clear hcz11_0
      try clear hcz11_1
      try clear hcz7_0
      try clear hcz7_1
      try clear hfz11_0
      try clear hfz11_1
      try clear hfz7_0
      try clear hfz7_1
      obtain ⟨x5_1, x16_1, rfl, HA, HK1, HO_5, HO_14, BK573, HB⟩ := hrel
      cases gk with
      | zero => exact absurd HA.out (by simp [impl_CoveringFlats.l0])
      | succ k1 =>
        have H := HA.out
        clear HA
        simp only [impl_CoveringFlats.l0] at H
        by_cases c14 : x16_1 < (t578.length : Int)
        · rw [if_pos c14] at H
          have c14b0 : decide (x16_1 < (t578.length : Int)) = true := decide_eq_true c14
          clear c14
          by_cases c15 : 0 ≤ x16_1
          · rw [if_pos c15] at H
            have c15b0 : decide (0 ≤ x16_1) = true := decide_eq_true c15
            clear c15
            by_cases c16 : x16_1 < (t578.length : Int)
            · rw [if_pos c16] at H
              have c16b0 : decide (x16_1 < (t578.length : Int)) = true := decide_eq_true c16
              clear c16
              by_cases c17 : (rd t578 x16_1) = a1
              · rw [if_pos c17] at H
                have c17b0 : ((rd t578 x16_1) == a1) = true := beq_iff_eq.mpr c17
                have c17b1 : ((rd t578 x16_1) != a1) = false := bne_eq_false_iff_eq.mpr c17
                clear c17
                have H' := Aside0.mk H
                clear H
                have p581 : 0 ≤ (x16_1 : Int) := of_decide_eq_true (by first | (with_reducible assumption) | assumption)
                have q581 : x16_1 < (t578.length : Int) := of_decide_eq_true (by first | (with_reducible assumption) | assumption)
                obtain ⟨ad581, e581, hx581_0⟩ := Kd.at_int (Kd.R_reads' HO_14.out).2.2 x16_1 p581 q581
                cases e581
                replace p581 := eq_true p581
                replace q581 := eq_true q581
                go_wp2
                go_roundg k1
                case measure => have := HK1.out; omega
                case rel => exact ⟨(x5_1), (wrap64 (x16_1 + 1)), (by first | rfl | (simp; done) | (simp [*]; done)), H', ⟨by have := HK1.out; omega⟩, ⟨by (with_reducible repeat (first | apply Kd.R_alloc | apply Kd.R_drewN | apply Kd.R_drew)); exact HO_5.out⟩, ⟨by (with_reducible repeat (first | apply Kd.R_alloc | apply Kd.R_drewN | apply Kd.R_drew)); exact HO_14.out⟩, ⟨by (with_reducible repeat (first | refine blk_drewN ?_ _ | refine blk_drew ?_ | refine blk_alloc ?_ _)); exact BK573.out⟩, ⟨by repeat (first | (with_reducible first | exact HB.out | apply below_alloc | apply pw_below_drewN | apply below_drew1 | refine below_set ?_ GE573.out) | exact HB.out)⟩⟩
              · rw [if_neg c17] at H
                have c17b0 : ((rd t578 x16_1) == a1) = false := beq_eq_false_iff_ne.mpr c17
                have c17b1 : ((rd t578 x16_1) != a1) = true := bne_iff_ne.mpr c17
                replace H := Option.bind_eq_some_iff.mp H
                obtain ⟨t582, A180, H⟩ := H
                replace H : (if t582 = true then (if x5_1.length < 17592186044416 then (impl_CoveringFlats.l0 k1 a1 (x5_1 ++ [rd t578 x16_1]) t578 (t578.length : Int) (wrap64 (x16_1 + 1))) else (none)) else (impl_CoveringFlats.l0 k1 a1 x5_1 t578 (t578.length : Int) (wrap64 (x16_1 + 1)))) = some r := H
                have A18 := Aside0.mk A180
                clear A180
                by_cases c19 : t582 = true
                · subst c19
                  have H1 : (if x5_1.length < 17592186044416 then (impl_CoveringFlats.l0 k1 a1 (x5_1 ++ [rd t578 x16_1]) t578 (t578.length : Int) (wrap64 (x16_1 + 1))) else (none)) = some r := by rw [if_pos rfl] at H; exact H
                  clear H
                  have H := H1
                  clear H1
                  by_cases c20 : x5_1.length < 17592186044416
                  · rw [if_pos c20] at H
                    have LMc20 := Aside0.mk c20
                    clear c20
                    obtain ⟨y583, hy583⟩ : ∃ y_ : List Int, y_ = (x5_1 ++ [rd t578 x16_1]) := ⟨_, rfl⟩
                    replace H : (impl_CoveringFlats.l0 k1 a1 y583 t578 (t578.length : Int) (wrap64 (x16_1 + 1))) = some r := by first | (rw [hy583]; with_reducible exact H) | (have H2_ := (Option.bind_some _ _).symm.trans H; rw [hy583]; with_reducible exact H2_) | (have H2_ := (Option.bind_some _ _).symm.trans H; with_reducible exact H2_) | with_reducible exact H | (rw [hy583]; exact H) | exact H
                    have Ny583 := Aside0.mk hy583
                    clear hy583
                    have H' := Aside0.mk H
                    clear H
                    have p581 : 0 ≤ (x16_1 : Int) := of_decide_eq_true (by first | (with_reducible assumption) | assumption)
                    have q581 : x16_1 < (t578.length : Int) := of_decide_eq_true (by first | (with_reducible assumption) | assumption)
                    obtain ⟨ad581, e581, hx581_0⟩ := Kd.at_int (Kd.R_reads' HO_14.out).2.2 x16_1 p581 q581
                    cases e581
                    replace p581 := eq_true p581
                    replace q581 := eq_true q581
                    go_wp2_with (first | (go_at_call 64; (try simp only [i64_w, i32_w]); (with_reducible refine (impl_IsSubset.calls a1 (rd t578 x16_1) true _ A18.out).mono ?_); rintro e w' ⟨rfl, ⟨nd, rfl⟩⟩) | ((with_reducible refine gate_builtin (b := .append) (xs := #[.tmp 28, .tmp 30]) rfl ?_); at_builtin; refine Kd.R_append (Kd.int .i64) (w0 := w) w.heap.size rfl (.tmp 28) (.tmp 30) 22 3 (.int .i64 0) 8 rfl Try.underlying22 info3 rfl (by decide) (by omega) u5 x5_1 (rd t578 x16_1) [.int .i64 (rd t578 x16_1)] (fun k_ => some k_ ≠ (.slice (some ad581) t578.length co13 : Value).ownBlock) (fun _ => False) rfl rfl ?aP (fun _ hk => hk.elim) ?aF ?aO ?aB ?aS ?aL ?_; (case aP => exact rfl); (case aB => exact (by repeat (first | (with_reducible first | exact HB.out | apply below_alloc | apply pw_below_drewN | apply below_drew1 | refine below_set ?_ GE573.out) | exact HB.out))); (case aF => exact (fun k_ hk => Kd.fresh' (Kd.R_lt (by (with_reducible repeat (first | apply Kd.R_alloc | apply Kd.R_drewN | apply Kd.R_drew)); exact HO_14.out)) k_ hk)); (case aO => exact (by (with_reducible repeat (first | apply Kd.R_alloc | apply Kd.R_drewN | apply Kd.R_drew)); exact HO_5.out)); (case aS => exact (below_size (by repeat (first | (with_reducible first | exact HB.out | apply below_alloc | apply pw_below_drewN | apply below_drew1 | refine below_set ?_ GE573.out) | exact HB.out)))); (case aL => have := LMc20.out; omega); intro v584 w21 ho hb hg hat; rw [← Ny583.out] at ho; have n0_ := Aside0.mk (Kd.R_after (ok := (fun _ => True)) (by (with_reducible repeat (first | apply Kd.R_alloc | apply Kd.R_drewN | apply Kd.R_drew)); exact Kd.R_mono HO_14.out (fun _ hk => ⟨trivial, by first | exact hk | exact fun h_ => hk (h_.trans ((fun (A : Option Addr) (x y c : Nat) => (by cases A <;> rfl : (Value.slice A x c).ownBlock = (Value.slice A y c).ownBlock)) _ _ _ _))⟩)) hg hat); have n1_ := Aside0.mk (blk_grown (g := gb573) (o := .cells #[.int .i64 a0_0, .slice A0_1 l0_1.length c0_1] 27 (0, 0)) (by (with_reducible repeat (first | refine blk_drewN ?_ _ | refine blk_drew ?_ | refine blk_alloc ?_ _)); exact BK573.out) hg (Kd.R_ne HO_5.out BK573.out (by decide))); have n2_ := Aside0.mk (hb); have n3_ := Aside0.mk (ho); clear HO_14; clear BK573; clear HB; clear HO_5; have HO_14 := n0_; have BK573 := n1_; have HB := n2_; have HO585 := n3_; clear n0_ n1_ n2_ n3_; clear ho hb hg hat))
                    go_roundg k1
                    case measure => have := HK1.out; omega
                    case rel => exact ⟨(y583), (wrap64 (x16_1 + 1)), (by first | rfl | (simp; done) | (simp [*]; done)), H', ⟨by have := HK1.out; omega⟩, ⟨by (with_reducible repeat (first | apply Kd.R_alloc | apply Kd.R_drewN | apply Kd.R_drew)); exact HO585.out⟩, ⟨by (with_reducible repeat (first | apply Kd.R_alloc | apply Kd.R_drewN | apply Kd.R_drew)); exact Kd.R_mono HO_14.out (fun _ hk => hk.2)⟩, ⟨by (with_reducible repeat (first | refine blk_drewN ?_ _ | refine blk_drew ?_ | refine blk_alloc ?_ _)); exact BK573.out⟩, ⟨by repeat (first | (with_reducible first | exact HB.out | apply below_alloc | apply pw_below_drewN | apply below_drew1 | refine below_set ?_ GE573.out) | exact HB.out)⟩⟩
                  · rw [if_neg c20] at H
                    exact absurd H (by simp)
                · replace c19 := Bool.eq_false_iff.mpr c19
                  subst c19
                  have H1 : (impl_CoveringFlats.l0 k1 a1 x5_1 t578 (t578.length : Int) (wrap64 (x16_1 + 1))) = some r := by rw [if_neg (show ¬ (false = true) by decide)] at H; exact H
                  clear H
                  have H := H1
                  clear H1
                  have H' := Aside0.mk H
                  clear H
                  have p581 : 0 ≤ (x16_1 : Int) := of_decide_eq_true (by first | (with_reducible assumption) | assumption)
                  have q581 : x16_1 < (t578.length : Int) := of_decide_eq_true (by first | (with_reducible assumption) | assumption)
                  obtain ⟨ad581, e581, hx581_0⟩ := Kd.at_int (Kd.R_reads' HO_14.out).2.2 x16_1 p581 q581
                  cases e581
                  replace p581 := eq_true p581
                  replace q581 := eq_true q581
                  go_wp2_with (first | (go_at_call 64; (try simp only [i64_w, i32_w]); (with_reducible refine (impl_IsSubset.calls a1 (rd t578 x16_1) false _ A18.out).mono ?_); rintro e w' ⟨rfl, ⟨nd, rfl⟩⟩))
                  go_roundg k1
                  case measure => have := HK1.out; omega
                  case rel => exact ⟨(x5_1), (wrap64 (x16_1 + 1)), (by first | rfl | (simp; done) | (simp [*]; done)), H', ⟨by have := HK1.out; omega⟩, ⟨by (with_reducible repeat (first | apply Kd.R_alloc | apply Kd.R_drewN | apply Kd.R_drew)); exact HO_5.out⟩, ⟨by (with_reducible repeat (first | apply Kd.R_alloc | apply Kd.R_drewN | apply Kd.R_drew)); exact HO_14.out⟩, ⟨by (with_reducible repeat (first | refine blk_drewN ?_ _ | refine blk_drew ?_ | refine blk_alloc ?_ _)); exact BK573.out⟩, ⟨by repeat (first | (with_reducible first | exact HB.out | apply below_alloc | apply pw_below_drewN | apply below_drew1 | refine below_set ?_ GE573.out) | exact HB.out)⟩⟩
            · rw [if_neg c16] at H
              exact absurd H (by simp)
          · rw [if_neg c15] at H
            exact absurd H (by simp)
        · rw [if_neg c14] at H
          have c14b0 : decide (x16_1 < (t578.length : Int)) = false := decide_eq_false c14
          clear c14
          replace H := Option.bind_eq_some_iff.mp H
          obtain ⟨t586, A220, H⟩ := H
          replace H : (some t586) = some r := H
          have A22 := Aside0.mk A220
          clear A220
          obtain rfl := Option.some.inj H
          obtain ⟨Ao23, co23, eo23⟩ := Kd.R_slice HO_5.out
          subst eo23
          go_wp2_with (first | ((with_reducible refine gate_callee (f := 65) rfl ?_); refine goesL_ (some 34) rfl rfl Try.func65 (by kernel_rfl) rfl #[.slice Ao23 x5_1.length co23] rfl (by (try simp only [List.map_toArray, List.map_cons, List.map_nil]); first | done | rfl | (simp only [List.length_drop, List.length_take]; rfl)) ?_; (with_reducible refine (impl_MinimalSets.calls k1 _ _ x5_1 t586 _ ?side1 ?side2 A22.out).mono ?_); (case side1 => repeat (first | exact (Kd.R_reads' HO_5.out).2.2 | (with_reducible refine Kd.C_alloc ?_ _) | (with_reducible refine Kd.C_drewN ?_ _) | (with_reducible refine Kd.C_drew ?_))); (case side2 => exact (Kd.R_reads' HO_5.out).2.1); rintro e w24 ⟨v587, rfl, ho0, hb⟩; refine ⟨_, rfl, ?_⟩; have n0_ := Aside0.mk (Kd.R_elder' (by (with_reducible repeat (first | apply Kd.R_alloc | apply Kd.R_drewN | apply Kd.R_drew)); exact HO_5.out) (Kd.R_base ho0) hb); have n1_ := Aside0.mk (Kd.R_elder' (by (with_reducible repeat (first | apply Kd.R_alloc | apply Kd.R_drewN | apply Kd.R_drew)); exact HO_14.out) (Kd.R_base ho0) hb); have n2_ := Aside0.mk (Kd.R_lower (Kd.R_new' (Kd.R_new' ho0 (Kd.R_lt (by (with_reducible repeat (first | apply Kd.R_alloc | apply Kd.R_drewN | apply Kd.R_drew)); exact HO_5.out))) (Kd.R_lt (by (with_reducible repeat (first | apply Kd.R_alloc | apply Kd.R_drewN | apply Kd.R_drew)); exact HO_14.out))) (below_size (by repeat (first | (with_reducible first | exact HB.out | apply below_alloc | apply pw_below_drewN | apply below_drew1 | refine below_set ?_ GE573.out) | exact HB.out)))); have n3_ := Aside0.mk (blk_below (g := gb573) (o := .cells #[.int .i64 a0_0, .slice A0_1 l0_1.length c0_1] 27 (0, 0)) (by (with_reducible repeat (first | refine blk_drewN ?_ _ | refine blk_drew ?_ | refine blk_alloc ?_ _)); exact BK573.out) hb); have n4_ := Aside0.mk (below_step (by repeat (first | (with_reducible first | exact HB.out | apply below_alloc | apply pw_below_drewN | apply below_drew1 | refine below_set ?_ GE573.out) | exact HB.out)) hb); clear HO_5; clear HO_14; clear BK573; clear HB; have HO_5 := n0_; have HO_14 := n1_; have HO588 := n2_; have BK573 := n3_; have HB := n4_; clear n0_ n1_ n2_ n3_ n4_; (try clear hb); (try clear hb2); (try clear hk); (try clear hi); (try clear ho0)))
          go_ret
          exact ⟨_, by first | rfl | (simp [errW_none, errW_some] <;> rfl) | (simp [*, errW_none, errW_some] <;> rfl), by (with_reducible repeat (first | apply Kd.R_alloc | apply Kd.R_drewN | apply Kd.R_drew)); exact Kd.R_mono HO588.out (fun _ hk => trivial), by repeat (first | (with_reducible first | exact HB.out | apply below_alloc | apply pw_below_drewN | apply below_drew1 | refine below_set ?_ GE573.out) | exact HB.out)⟩
  · replace c4 := Bool.eq_false_iff.mpr c4
    subst c4
    have H1 : (some ([] : List Int)) = some r := by rw [if_neg (show ¬ (false = true) by decide)] at H; exact H
    clear H
    have H := H1
    clear H1
    obtain rfl := Option.some.inj H
    go_enter Try.func38, Try.ntmps38
    go_wp2_with (first | ((with_reducible refine gate_dst (N := 2) rfl ?_); refine box_event ?hg (N := 2) ?hd (cs := #[.int .i64 a0_0, .slice A0_1 l0_1.length c0_1]) (t := 27) ?hr ?_; (case hd => rfl); (case hg => rfl); (case hr => first | (go_simp; done) | (go_simp; rfl)); intro gb573 hg w25 hbox hb; have n0_ := Aside0.mk (below_step (by repeat (first | (with_reducible first | exact HB.out | apply below_alloc | apply pw_below_drewN | apply below_drew1) | exact HB.out)) hb); have n1_ := Aside0.mk (hbox); have n2_ := Aside0.mk ((by rw [hg]; exact (below_size (by repeat (first | (with_reducible first | exact HB.out | apply below_alloc | apply pw_below_drewN | apply below_drew1) | exact HB.out))) : w.heap.size ≤ gb573)); have n3_ := Aside0.mk ((by rw [hg]; exact (below_size (by repeat (first | (with_reducible first | exact HB.out | apply below_alloc | apply pw_below_drewN | apply below_drew1) | exact HB.out))) : w.heap.size ≤ gb573)); clear HB; have HB := n0_; have BK573 := n1_; have GW573 := n2_; have GE573 := n3_; clear n0_ n1_ n2_ n3_; clear hb hbox hg; have hcz26_0 : w25.cell? ⟨gb573, 0, none⟩ = some (.int .i64 a0_0) := (blk_cell BK573.out 0).trans rfl; have hcz26_1 : w25.cell? ⟨gb573, 1, none⟩ = some (.slice A0_1 l0_1.length c0_1) := (blk_cell BK573.out 1).trans rfl; have hfz26_0 := blk_frozen BK573.out 0; have hfz26_1 := blk_frozen BK573.out 1) | ((with_reducible refine gate_callee (f := 63) rfl ?_); refine goesL_ (some 10) rfl rfl Try.func63 (by kernel_rfl) rfl #[.agg #[.int .i64 a0_0, .slice A0_1 l0_1.length c0_1], .int .i64 a1] rfl (by (try simp only [List.map_toArray, List.map_cons, List.map_nil]); first | done | rfl | (simp only [List.length_drop, List.length_take]; rfl)) ?_; (with_reducible refine (impl_isFlat.calls k a0_0 _ _ l0_1 a1 false _ ?side1 ?side2 A3.out).mono ?_); (case side1 => repeat (first | exact (Kd.C_below HR0_1.out HB.out) | (with_reducible refine Kd.C_alloc ?_ _) | (with_reducible refine Kd.C_drewN ?_ _) | (with_reducible refine Kd.C_drew ?_))); (case side2 => exact HC0_1.out); rintro e w27 ⟨rfl, hb⟩; refine ⟨_, rfl, ?_⟩; have n0_ := Aside0.mk (blk_below (g := gb573) (o := .cells #[.int .i64 a0_0, .slice A0_1 l0_1.length c0_1] 27 (0, 0)) (by (with_reducible repeat (first | refine blk_drewN ?_ _ | refine blk_drew ?_ | refine blk_alloc ?_ _)); exact BK573.out) hb); have n1_ := Aside0.mk (below_step (by repeat (first | (with_reducible first | exact HB.out | apply below_alloc | apply pw_below_drewN | apply below_drew1 | refine below_set ?_ GE573.out) | exact HB.out)) hb); clear BK573; clear HB; have BK573 := n0_; have HB := n1_; clear n0_ n1_; (try clear hb); (try clear hb2); (try clear hk); (try clear hi)))
    go_ret
    exact ⟨_, by first | rfl | (simp [errW_none, errW_some] <;> rfl) | (simp [*, errW_none, errW_some] <;> rfl), by first | exact Kd.R_nil _ _ _ _ _ | exact Kd.N_nil _ _ _ _ _ | exact Kd.V_nil _ _ _ _ _ | exact Kd.Q_nil _ _ _ _ _ | exact Kd.S_nil _ _ _ _ _, by repeat (first | (with_reducible first | exact HB.out | apply below_alloc | apply pw_below_drewN | apply below_drew1 | refine below_set ?_ GE573.out) | exact HB.out)⟩

end Go.Proofs.Ytmeopnlkddflaaa.F
end
section
namespace Go.Proofs.Ytmeopnlkddflaaa.F
open Go.RowKit Go.Proofs.YtmeopnlkddflaaaW.PrintWords Go.Proofs.YtmeopnlkddflaaaW.PrintLast Go.Proofs.YtmeopnlkddflaaaW.PrintMore
attribute [local go_sem] max2_int min2_int max_two min_two max_three min_three max_four min_four   -- for this text's walks alone
set_option linter.unusedVariables false
set_option linter.unusedSimpArgs false

def laws_FnExactCoveringFlats.j0 : Nat → Int → List Int → List Int → Bool → Int → List Int → Option (Bool)
  | 0, _, _, _, _, _, _ => none
  | k + 1, x1, x6, x8, x46, x590000, x590001 => if x46 = true then (none) else ((laws_markIntS.f k x8 1).bind fun bt615 => ((laws_heldIntS.f k bt615.2 1).bind fun t617 => (if t617 < 0 then (none) else (if t617 = bt615.1 then ((laws_toMatroid.f k x590000 x590001).bind fun bt618 => ((impl_CoveringFlats.f k bt618.1 bt618.2 x1).bind fun t622 => ((laws_eqIntS.f k t622 x6).bind fun t625 => (if t625 = true then ((laws_heldIntS.f k bt615.2 1).bind fun t626 => (if t626 < 0 then (none) else (if t626 = bt615.1 then (some true) else (none)))) else (none))))) else (none)))))
def laws_FnExactCoveringFlats.f (k : Nat) (a0_0 : Int) (l0_1 : List Int) (a1 : Int) : Option (Bool) := (laws_szMatroid.f a0_0 l0_1 1048576).bind fun t590 => (if t590 < 0 then (some true) else ((laws_toMatroid.f k a0_0 l0_1).bind fun bt591 => ((spec_CoveringFlats.f k bt591.1 bt591.2 a1).bind fun t595 => ((laws_toMatroid.f k a0_0 l0_1).bind fun bt598 => ((impl_CoveringFlats.f k bt598.1 bt598.2 a1).bind fun t603 => ((laws_eqIntS.f k t603 t595).bind fun t606 => (if t606 = true then ((laws_toMatroid.f k a0_0 l0_1).bind fun bt607 => ((laws_eqMatroid.f k bt598.1 bt598.2 bt607.1 bt607.2).bind fun t611 => (if t611 = true then ((laws_markMatroid.f k bt598.1 bt598.2 1).bind fun bt612 => (if bt612.1 < 0 then (laws_FnExactCoveringFlats.j0 k a1 t595 t603 true a0_0 l0_1) else ((laws_eqIntS.f k t603 t595).bind fun t614 => (laws_FnExactCoveringFlats.j0 k a1 t595 t603 (!t614) a0_0 l0_1)))) else (none)))) else (none))))))))
set_option maxHeartbeats 8000000 in
set_option maxRecDepth 100000 in
theorem laws_FnExactCoveringFlats.calls (k : Nat) (a0_0 : Int) (A0_1 : Option Addr) (c0_1 : Nat) (l0_1 : List Int) (a1 : Int) (r : Bool) (w : World) (hr0_1 : Kd.C (Kd.int .i64) w A0_1 l0_1.length l0_1) (hc0_1 : l0_1.length ≤ c0_1) (h : laws_FnExactCoveringFlats.f k a0_0 l0_1 a1 = some r) :
    Calls Try.prog 11 #[.agg #[.int .i64 a0_0, .slice A0_1 l0_1.length c0_1], .int .i64 a1] w fun e w' => e = .returned (.bool r) ∧ Below w.heap.size w w' := by
  have hu24 := Try.underlying24
  have hu27 := Try.underlying27
  have HR0_1 := Aside0.mk hr0_1
  have HC0_1 := Aside0.mk hc0_1
  clear hr0_1 hc0_1
  have HB := Aside0.mk (Below.refl w.heap.size w)
  have H : ((laws_szMatroid.f a0_0 l0_1 1048576).bind fun t590 => (if t590 < 0 then (some true) else ((laws_toMatroid.f k a0_0 l0_1).bind fun bt591 => ((spec_CoveringFlats.f k bt591.1 bt591.2 a1).bind fun t595 => ((laws_toMatroid.f k a0_0 l0_1).bind fun bt598 => ((impl_CoveringFlats.f k bt598.1 bt598.2 a1).bind fun t603 => ((laws_eqIntS.f k t603 t595).bind fun t606 => (if t606 = true then ((laws_toMatroid.f k a0_0 l0_1).bind fun bt607 => ((laws_eqMatroid.f k bt598.1 bt598.2 bt607.1 bt607.2).bind fun t611 => (if t611 = true then ((laws_markMatroid.f k bt598.1 bt598.2 1).bind fun bt612 => (if bt612.1 < 0 then (laws_FnExactCoveringFlats.j0 k a1 t595 t603 true a0_0 l0_1) else ((laws_eqIntS.f k t603 t595).bind fun t614 => (laws_FnExactCoveringFlats.j0 k a1 t595 t603 (!t614) a0_0 l0_1)))) else (none)))) else (none))))))))) = some r := h
  clear h
  replace H := Option.bind_eq_some_iff.mp H
  obtain ⟨t590, A30, H⟩ := H
  replace H : (if t590 < 0 then (some true) else ((laws_toMatroid.f k a0_0 l0_1).bind fun bt591 => ((spec_CoveringFlats.f k bt591.1 bt591.2 a1).bind fun t595 => ((laws_toMatroid.f k a0_0 l0_1).bind fun bt598 => ((impl_CoveringFlats.f k bt598.1 bt598.2 a1).bind fun t603 => ((laws_eqIntS.f k t603 t595).bind fun t606 => (if t606 = true then ((laws_toMatroid.f k a0_0 l0_1).bind fun bt607 => ((laws_eqMatroid.f k bt598.1 bt598.2 bt607.1 bt607.2).bind fun t611 => (if t611 = true then ((laws_markMatroid.f k bt598.1 bt598.2 1).bind fun bt612 => (if bt612.1 < 0 then (laws_FnExactCoveringFlats.j0 k a1 t595 t603 true a0_0 l0_1) else ((laws_eqIntS.f k t603 t595).bind fun t614 => (laws_FnExactCoveringFlats.j0 k a1 t595 t603 (!t614) a0_0 l0_1)))) else (none)))) else (none)))))))) = some r := H
  have A3 := Aside0.mk A30
  clear A30
  by_cases c4 : t590 < 0
  · rw [if_pos c4] at H
    have c4b0 : decide (t590 < 0) = true := decide_eq_true c4
    clear c4
    obtain rfl := Option.some.inj H
    go_enter Try.func11, Try.ntmps11
    go_wp2_with (first | ((with_reducible refine gate_dst (N := 2) rfl ?_); refine box_event ?hg (N := 2) ?hd (cs := #[.int .i64 a0_0, .slice A0_1 l0_1.length c0_1]) (t := 24) ?hr ?_; (case hd => rfl); (case hg => rfl); (case hr => first | (go_simp; done) | (go_simp; rfl)); intro gb589 hg w5 hbox hb; have n0_ := Aside0.mk (below_step (by repeat (first | (with_reducible first | exact HB.out | apply below_alloc | apply pw_below_drewN | apply below_drew1) | exact HB.out)) hb); have n1_ := Aside0.mk (hbox); have n2_ := Aside0.mk ((by rw [hg]; exact (below_size (by repeat (first | (with_reducible first | exact HB.out | apply below_alloc | apply pw_below_drewN | apply below_drew1) | exact HB.out))) : w.heap.size ≤ gb589)); have n3_ := Aside0.mk ((by rw [hg]; exact (below_size (by repeat (first | (with_reducible first | exact HB.out | apply below_alloc | apply pw_below_drewN | apply below_drew1) | exact HB.out))) : w.heap.size ≤ gb589)); clear HB; have HB := n0_; have BK589 := n1_; have GW589 := n2_; have GE589 := n3_; clear n0_ n1_ n2_ n3_; clear hb hbox hg; have hcz6_0 : w5.cell? ⟨gb589, 0, none⟩ = some (.int .i64 a0_0) := (blk_cell BK589.out 0).trans rfl; have hcz6_1 : w5.cell? ⟨gb589, 1, none⟩ = some (.slice A0_1 l0_1.length c0_1) := (blk_cell BK589.out 1).trans rfl; have hfz6_0 := blk_frozen BK589.out 0; have hfz6_1 := blk_frozen BK589.out 1) | ((with_reducible refine gate_callee (f := 12) rfl ?_); refine goesL_ (some 15) rfl rfl Try.func12 (by kernel_rfl) rfl #[.agg #[.int .i64 a0_0, .slice A0_1 l0_1.length c0_1], .int .i64 1048576] rfl (by (try simp only [List.map_toArray, List.map_cons, List.map_nil]); first | done | rfl | (simp only [List.length_drop, List.length_take]; rfl)) ?_; (with_reducible refine (laws_szMatroid.calls a0_0 _ _ l0_1 1048576 t590 _ ?side1 ?side2 A3.out).mono ?_); (case side1 => repeat (first | exact (Kd.C_below HR0_1.out HB.out) | (with_reducible refine Kd.C_alloc ?_ _) | (with_reducible refine Kd.C_drewN ?_ _) | (with_reducible refine Kd.C_drew ?_))); (case side2 => exact HC0_1.out); rintro e w7 ⟨rfl, hb⟩; refine ⟨_, rfl, ?_⟩; have n0_ := Aside0.mk (blk_below (g := gb589) (o := .cells #[.int .i64 a0_0, .slice A0_1 l0_1.length c0_1] 24 (0, 0)) (by (with_reducible repeat (first | refine blk_drewN ?_ _ | refine blk_drew ?_ | refine blk_alloc ?_ _)); exact BK589.out) hb); have n1_ := Aside0.mk (below_step (by repeat (first | (with_reducible first | exact HB.out | apply below_alloc | apply pw_below_drewN | apply below_drew1 | refine below_set ?_ GE589.out) | exact HB.out)) hb); clear BK589; clear HB; have BK589 := n0_; have HB := n1_; clear n0_ n1_; (try clear hb); (try clear hb2); (try clear hk); (try clear hi)))
    go_ret
    exact ⟨by first | rfl | (simp [errW_none, errW_some] <;> rfl) | (simp [*, errW_none, errW_some] <;> rfl), by repeat (first | (with_reducible first | exact HB.out | apply below_alloc | apply pw_below_drewN | apply below_drew1 | refine below_set ?_ GE589.out) | exact HB.out)⟩
  · rw [if_neg c4] at H
    have c4b0 : decide (t590 < 0) = false := decide_eq_false c4
    clear c4
    replace H := Option.bind_eq_some_iff.mp H
    obtain ⟨⟨t591, t592⟩, A80, H⟩ := H
    replace H : ((spec_CoveringFlats.f k t591 t592 a1).bind fun t595 => ((laws_toMatroid.f k a0_0 l0_1).bind fun bt598 => ((impl_CoveringFlats.f k bt598.1 bt598.2 a1).bind fun t603 => ((laws_eqIntS.f k t603 t595).bind fun t606 => (if t606 = true then ((laws_toMatroid.f k a0_0 l0_1).bind fun bt607 => ((laws_eqMatroid.f k bt598.1 bt598.2 bt607.1 bt607.2).bind fun t611 => (if t611 = true then ((laws_markMatroid.f k bt598.1 bt598.2 1).bind fun bt612 => (if bt612.1 < 0 then (laws_FnExactCoveringFlats.j0 k a1 t595 t603 true a0_0 l0_1) else ((laws_eqIntS.f k t603 t595).bind fun t614 => (laws_FnExactCoveringFlats.j0 k a1 t595 t603 (!t614) a0_0 l0_1)))) else (none)))) else (none)))))) = some r := H
    have A8 := Aside0.mk A80
    clear A80
    replace H := Option.bind_eq_some_iff.mp H
    obtain ⟨t595, A90, H⟩ := H
    replace H : ((laws_toMatroid.f k a0_0 l0_1).bind fun bt598 => ((impl_CoveringFlats.f k bt598.1 bt598.2 a1).bind fun t603 => ((laws_eqIntS.f k t603 t595).bind fun t606 => (if t606 = true then ((laws_toMatroid.f k a0_0 l0_1).bind fun bt607 => ((laws_eqMatroid.f k bt598.1 bt598.2 bt607.1 bt607.2).bind fun t611 => (if t611 = true then ((laws_markMatroid.f k bt598.1 bt598.2 1).bind fun bt612 => (if bt612.1 < 0 then (laws_FnExactCoveringFlats.j0 k a1 t595 t603 true a0_0 l0_1) else ((laws_eqIntS.f k t603 t595).bind fun t614 => (laws_FnExactCoveringFlats.j0 k a1 t595 t603 (!t614) a0_0 l0_1)))) else (none)))) else (none))))) = some r := H
    have A9 := Aside0.mk A90
    clear A90
    replace H := Option.bind_eq_some_iff.mp H
    obtain ⟨⟨t598, t599⟩, A100, H⟩ := H
    replace H : ((impl_CoveringFlats.f k t598 t599 a1).bind fun t603 => ((laws_eqIntS.f k t603 t595).bind fun t606 => (if t606 = true then ((laws_toMatroid.f k a0_0 l0_1).bind fun bt607 => ((laws_eqMatroid.f k t598 t599 bt607.1 bt607.2).bind fun t611 => (if t611 = true then ((laws_markMatroid.f k t598 t599 1).bind fun bt612 => (if bt612.1 < 0 then (laws_FnExactCoveringFlats.j0 k a1 t595 t603 true a0_0 l0_1) else ((laws_eqIntS.f k t603 t595).bind fun t614 => (laws_FnExactCoveringFlats.j0 k a1 t595 t603 (!t614) a0_0 l0_1)))) else (none)))) else (none)))) = some r := H
    have A10 := Aside0.mk A100
    clear A100
    replace H := Option.bind_eq_some_iff.mp H
    obtain ⟨t603, A110, H⟩ := H
    replace H : ((laws_eqIntS.f k t603 t595).bind fun t606 => (if t606 = true then ((laws_toMatroid.f k a0_0 l0_1).bind fun bt607 => ((laws_eqMatroid.f k t598 t599 bt607.1 bt607.2).bind fun t611 => (if t611 = true then ((laws_markMatroid.f k t598 t599 1).bind fun bt612 => (if bt612.1 < 0 then (laws_FnExactCoveringFlats.j0 k a1 t595 t603 true a0_0 l0_1) else ((laws_eqIntS.f k t603 t595).bind fun t614 => (laws_FnExactCoveringFlats.j0 k a1 t595 t603 (!t614) a0_0 l0_1)))) else (none)))) else (none))) = some r := H
    have A11 := Aside0.mk A110
    clear A110
    replace H := Option.bind_eq_some_iff.mp H
    obtain ⟨t606, A120, H⟩ := H
    replace H : (if t606 = true then ((laws_toMatroid.f k a0_0 l0_1).bind fun bt607 => ((laws_eqMatroid.f k t598 t599 bt607.1 bt607.2).bind fun t611 => (if t611 = true then ((laws_markMatroid.f k t598 t599 1).bind fun bt612 => (if bt612.1 < 0 then (laws_FnExactCoveringFlats.j0 k a1 t595 t603 true a0_0 l0_1) else ((laws_eqIntS.f k t603 t595).bind fun t614 => (laws_FnExactCoveringFlats.j0 k a1 t595 t603 (!t614) a0_0 l0_1)))) else (none)))) else (none)) = some r := H
    have A12 := Aside0.mk A120
    clear A120
    by_cases c13 : t606 = true
    · subst c13
      have H1 : ((laws_toMatroid.f k a0_0 l0_1).bind fun bt607 => ((laws_eqMatroid.f k t598 t599 bt607.1 bt607.2).bind fun t611 => (if t611 = true then ((laws_markMatroid.f k t598 t599 1).bind fun bt612 => (if bt612.1 < 0 then (laws_FnExactCoveringFlats.j0 k a1 t595 t603 true a0_0 l0_1) else ((laws_eqIntS.f k t603 t595).bind fun t614 => (laws_FnExactCoveringFlats.j0 k a1 t595 t603 (!t614) a0_0 l0_1)))) else (none)))) = some r := by rw [if_pos rfl] at H; exact H
      clear H
      have H := H1
      clear H1
      replace H := Option.bind_eq_some_iff.mp H
      obtain ⟨⟨t607, t608⟩, A140, H⟩ := H
      replace H : ((laws_eqMatroid.f k t598 t599 t607 t608).bind fun t611 => (if t611 = true then ((laws_markMatroid.f k t598 t599 1).bind fun bt612 => (if bt612.1 < 0 then (laws_FnExactCoveringFlats.j0 k a1 t595 t603 true a0_0 l0_1) else ((laws_eqIntS.f k t603 t595).bind fun t614 => (laws_FnExactCoveringFlats.j0 k a1 t595 t603 (!t614) a0_0 l0_1)))) else (none))) = some r := H
      have A14 := Aside0.mk A140
      clear A140
      replace H := Option.bind_eq_some_iff.mp H
      obtain ⟨t611, A150, H⟩ := H
      replace H : (if t611 = true then ((laws_markMatroid.f k t598 t599 1).bind fun bt612 => (if bt612.1 < 0 then (laws_FnExactCoveringFlats.j0 k a1 t595 t603 true a0_0 l0_1) else ((laws_eqIntS.f k t603 t595).bind fun t614 => (laws_FnExactCoveringFlats.j0 k a1 t595 t603 (!t614) a0_0 l0_1)))) else (none)) = some r := H
      have A15 := Aside0.mk A150
      clear A150
      by_cases c16 : t611 = true
      · subst c16
        have H1 : ((laws_markMatroid.f k t598 t599 1).bind fun bt612 => (if bt612.1 < 0 then (laws_FnExactCoveringFlats.j0 k a1 t595 t603 true a0_0 l0_1) else ((laws_eqIntS.f k t603 t595).bind fun t614 => (laws_FnExactCoveringFlats.j0 k a1 t595 t603 (!t614) a0_0 l0_1)))) = some r := by rw [if_pos rfl] at H; exact H
        clear H
        have H := H1
        clear H1
        replace H := Option.bind_eq_some_iff.mp H
        obtain ⟨⟨t612, t613⟩, A170, H⟩ := H
        replace H : (if t612 < 0 then (laws_FnExactCoveringFlats.j0 k a1 t595 t603 true a0_0 l0_1) else ((laws_eqIntS.f k t603 t595).bind fun t614 => (laws_FnExactCoveringFlats.j0 k a1 t595 t603 (!t614) a0_0 l0_1))) = some r := H
        have A17 := Aside0.mk A170
        clear A170
        have HC18 := Aside0.mk H
        clear H
        go_enter Try.func11, Try.ntmps11
        try go_wp2_with (first | ((with_reducible refine gate_dst (N := 2) rfl ?_); refine box_event ?hg (N := 2) ?hd (cs := #[.int .i64 a0_0, .slice A0_1 l0_1.length c0_1]) (t := 24) ?hr ?_; (case hd => rfl); (case hg => rfl); (case hr => first | (go_simp; done) | (go_simp; rfl)); intro gb589 hg w19 hbox hb; have n0_ := Aside0.mk (below_step (by repeat (first | (with_reducible first | exact HB.out | apply below_alloc | apply pw_below_drewN | apply below_drew1) | exact HB.out)) hb); have n1_ := Aside0.mk (hbox); have n2_ := Aside0.mk ((by rw [hg]; exact (below_size (by repeat (first | (with_reducible first | exact HB.out | apply below_alloc | apply pw_below_drewN | apply below_drew1) | exact HB.out))) : w.heap.size ≤ gb589)); have n3_ := Aside0.mk ((by rw [hg]; exact (below_size (by repeat (first | (with_reducible first | exact HB.out | apply below_alloc | apply pw_below_drewN | apply below_drew1) | exact HB.out))) : w.heap.size ≤ gb589)); clear HB; have HB := n0_; have BK589 := n1_; have GW589 := n2_; have GE589 := n3_; clear n0_ n1_ n2_ n3_; clear hb hbox hg; have hcz20_0 : w19.cell? ⟨gb589, 0, none⟩ = some (.int .i64 a0_0) := (blk_cell BK589.out 0).trans rfl; have hcz20_1 : w19.cell? ⟨gb589, 1, none⟩ = some (.slice A0_1 l0_1.length c0_1) := (blk_cell BK589.out 1).trans rfl; have hfz20_0 := blk_frozen BK589.out 0; have hfz20_1 := blk_frozen BK589.out 1) | ((with_reducible refine gate_callee (f := 12) rfl ?_); refine goesL_ (some 15) rfl rfl Try.func12 (by kernel_rfl) rfl #[.agg #[.int .i64 a0_0, .slice A0_1 l0_1.length c0_1], .int .i64 1048576] rfl (by (try simp only [List.map_toArray, List.map_cons, List.map_nil]); first | done | rfl | (simp only [List.length_drop, List.length_take]; rfl)) ?_; (with_reducible refine (laws_szMatroid.calls a0_0 _ _ l0_1 1048576 t590 _ ?side1 ?side2 A3.out).mono ?_); (case side1 => repeat (first | exact (Kd.C_below HR0_1.out HB.out) | (with_reducible refine Kd.C_alloc ?_ _) | (with_reducible refine Kd.C_drewN ?_ _) | (with_reducible refine Kd.C_drew ?_))); (case side2 => exact HC0_1.out); rintro e w21 ⟨rfl, hb⟩; refine ⟨_, rfl, ?_⟩; have n0_ := Aside0.mk (blk_below (g := gb589) (o := .cells #[.int .i64 a0_0, .slice A0_1 l0_1.length c0_1] 24 (0, 0)) (by (with_reducible repeat (first | refine blk_drewN ?_ _ | refine blk_drew ?_ | refine blk_alloc ?_ _)); exact BK589.out) hb); have n1_ := Aside0.mk (below_step (by repeat (first | (with_reducible first | exact HB.out | apply below_alloc | apply pw_below_drewN | apply below_drew1 | refine below_set ?_ GE589.out) | exact HB.out)) hb); clear BK589; clear HB; have BK589 := n0_; have HB := n1_; clear n0_ n1_; (try clear hb); (try clear hb2); (try clear hk); (try clear hi); have hcz22_0 : w21.cell? ⟨gb589, 0, none⟩ = some (.int .i64 a0_0) := (blk_cell BK589.out 0).trans rfl; have hcz22_1 : w21.cell? ⟨gb589, 1, none⟩ = some (.slice A0_1 l0_1.length c0_1) := (blk_cell BK589.out 1).trans rfl; have hfz22_0 := blk_frozen BK589.out 0; have hfz22_1 := blk_frozen BK589.out 1) | ((with_reducible refine gate_callee (f := 14) rfl ?_); refine goesL_ (some 19) rfl rfl Try.func14 (by kernel_rfl) rfl #[.agg #[.int .i64 a0_0, .slice A0_1 l0_1.length c0_1]] rfl (by (try simp only [List.map_toArray, List.map_cons, List.map_nil]); first | done | rfl | (simp only [List.length_drop, List.length_take]; rfl)) ?_; (with_reducible refine (laws_toMatroid.calls k a0_0 _ _ l0_1 t591 t592 _ ?side1 ?side2 A8.out).mono ?_); (case side1 => repeat (first | exact (Kd.C_below HR0_1.out HB.out) | (with_reducible refine Kd.C_alloc ?_ _) | (with_reducible refine Kd.C_drewN ?_ _) | (with_reducible refine Kd.C_drew ?_))); (case side2 => exact HC0_1.out); rintro e w23 ⟨v593, rfl, ho0, hb⟩; refine ⟨_, rfl, ?_⟩; have n0_ := Aside0.mk (Kd.R_lower ho0 (below_size (by repeat (first | (with_reducible first | exact HB.out | apply below_alloc | apply pw_below_drewN | apply below_drew1 | refine below_set ?_ GE589.out) | exact HB.out)))); have n1_ := Aside0.mk (blk_below (g := gb589) (o := .cells #[.int .i64 a0_0, .slice A0_1 l0_1.length c0_1] 24 (0, 0)) (by (with_reducible repeat (first | refine blk_drewN ?_ _ | refine blk_drew ?_ | refine blk_alloc ?_ _)); exact BK589.out) hb); have n2_ := Aside0.mk (below_step (by repeat (first | (with_reducible first | exact HB.out | apply below_alloc | apply pw_below_drewN | apply below_drew1 | refine below_set ?_ GE589.out) | exact HB.out)) hb); clear BK589; clear HB; have HO594 := n0_; have BK589 := n1_; have HB := n2_; clear n0_ n1_ n2_; (try clear hb); (try clear hb2); (try clear hk); (try clear hi); (try clear ho0); obtain ⟨Ao24, co24, eo24⟩ := Kd.R_slice HO594.out; subst eo24) | ((with_reducible refine gate_callee (f := 37) rfl ?_); refine goesL_ (some 21) rfl rfl Try.func37 (by kernel_rfl) rfl #[.agg #[.int .i64 t591, .slice Ao24 t592.length co24], .int .i64 a1] rfl (by (try simp only [List.map_toArray, List.map_cons, List.map_nil]); first | done | rfl | (simp only [List.length_drop, List.length_take]; rfl)) ?_; (with_reducible refine (spec_CoveringFlats.calls k t591 _ _ t592 a1 t595 _ ?side1 ?side2 A9.out).mono ?_); (case side1 => repeat (first | exact (Kd.R_reads' HO594.out).2.2 | (with_reducible refine Kd.C_alloc ?_ _) | (with_reducible refine Kd.C_drewN ?_ _) | (with_reducible refine Kd.C_drew ?_))); (case side2 => exact (Kd.R_reads' HO594.out).2.1); rintro e w25 ⟨v596, rfl, ho0, hb⟩; refine ⟨_, rfl, ?_⟩; have n0_ := Aside0.mk (Kd.R_elder' (by (with_reducible repeat (first | apply Kd.R_alloc | apply Kd.R_drewN | apply Kd.R_drew)); exact HO594.out) (Kd.R_base ho0) hb); have n1_ := Aside0.mk (Kd.R_lower (Kd.R_new' ho0 (Kd.R_lt (by (with_reducible repeat (first | apply Kd.R_alloc | apply Kd.R_drewN | apply Kd.R_drew)); exact HO594.out))) (below_size (by repeat (first | (with_reducible first | exact HB.out | apply below_alloc | apply pw_below_drewN | apply below_drew1 | refine below_set ?_ GE589.out) | exact HB.out)))); have n2_ := Aside0.mk (blk_below (g := gb589) (o := .cells #[.int .i64 a0_0, .slice A0_1 l0_1.length c0_1] 24 (0, 0)) (by (with_reducible repeat (first | refine blk_drewN ?_ _ | refine blk_drew ?_ | refine blk_alloc ?_ _)); exact BK589.out) hb); have n3_ := Aside0.mk (below_step (by repeat (first | (with_reducible first | exact HB.out | apply below_alloc | apply pw_below_drewN | apply below_drew1 | refine below_set ?_ GE589.out) | exact HB.out)) hb); clear HO594; clear BK589; clear HB; have HO594 := n0_; have HO597 := n1_; have BK589 := n2_; have HB := n3_; clear n0_ n1_ n2_ n3_; (try clear hb); (try clear hb2); (try clear hk); (try clear hi); (try clear ho0); have hcz26_0 : w25.cell? ⟨gb589, 0, none⟩ = some (.int .i64 a0_0) := (blk_cell BK589.out 0).trans rfl; have hcz26_1 : w25.cell? ⟨gb589, 1, none⟩ = some (.slice A0_1 l0_1.length c0_1) := (blk_cell BK589.out 1).trans rfl; have hfz26_0 := blk_frozen BK589.out 0; have hfz26_1 := blk_frozen BK589.out 1) | ((with_reducible refine gate_callee (f := 14) rfl ?_); refine goesL_ (some 23) rfl rfl Try.func14 (by kernel_rfl) rfl #[.agg #[.int .i64 a0_0, .slice A0_1 l0_1.length c0_1]] rfl (by (try simp only [List.map_toArray, List.map_cons, List.map_nil]); first | done | rfl | (simp only [List.length_drop, List.length_take]; rfl)) ?_; (with_reducible refine (laws_toMatroid.calls k a0_0 _ _ l0_1 t598 t599 _ ?side1 ?side2 A10.out).mono ?_); (case side1 => repeat (first | exact (Kd.C_below HR0_1.out HB.out) | (with_reducible refine Kd.C_alloc ?_ _) | (with_reducible refine Kd.C_drewN ?_ _) | (with_reducible refine Kd.C_drew ?_))); (case side2 => exact HC0_1.out); rintro e w27 ⟨v600, rfl, ho0, hb⟩; refine ⟨_, rfl, ?_⟩; have n0_ := Aside0.mk (Kd.R_elder' (by (with_reducible repeat (first | apply Kd.R_alloc | apply Kd.R_drewN | apply Kd.R_drew)); exact HO594.out) (Kd.R_base ho0) hb); have n1_ := Aside0.mk (Kd.R_elder' (by (with_reducible repeat (first | apply Kd.R_alloc | apply Kd.R_drewN | apply Kd.R_drew)); exact HO597.out) (Kd.R_base ho0) hb); have n2_ := Aside0.mk (Kd.R_lower (Kd.R_new' (Kd.R_new' ho0 (Kd.R_lt (by (with_reducible repeat (first | apply Kd.R_alloc | apply Kd.R_drewN | apply Kd.R_drew)); exact HO594.out))) (Kd.R_lt (by (with_reducible repeat (first | apply Kd.R_alloc | apply Kd.R_drewN | apply Kd.R_drew)); exact HO597.out))) (below_size (by repeat (first | (with_reducible first | exact HB.out | apply below_alloc | apply pw_below_drewN | apply below_drew1 | refine below_set ?_ GE589.out) | exact HB.out)))); have n3_ := Aside0.mk (blk_below (g := gb589) (o := .cells #[.int .i64 a0_0, .slice A0_1 l0_1.length c0_1] 24 (0, 0)) (by (with_reducible repeat (first | refine blk_drewN ?_ _ | refine blk_drew ?_ | refine blk_alloc ?_ _)); exact BK589.out) hb); have n4_ := Aside0.mk (below_step (by repeat (first | (with_reducible first | exact HB.out | apply below_alloc | apply pw_below_drewN | apply below_drew1 | refine below_set ?_ GE589.out) | exact HB.out)) hb); clear HO594; clear HO597; clear BK589; clear HB; have HO594 := n0_; have HO597 := n1_; have HO601 := n2_; have BK589 := n3_; have HB := n4_; clear n0_ n1_ n2_ n3_ n4_; (try clear hb); (try clear hb2); (try clear hk); (try clear hi); (try clear ho0)) | ((with_reducible refine gate_dst (N := 7) rfl ?_); refine box_event ?hg (N := 7) ?hd (cs := #[.int .i64 0, .slice none 0 0]) (t := 27) ?hr ?_; (case hd => rfl); (case hg => rfl); (case hr => first | (go_simp; done) | (go_simp; rfl)); intro gb602 hg w28 hbox hb; have n0_ := Aside0.mk (Kd.R_below (by (with_reducible repeat (first | apply Kd.R_alloc | apply Kd.R_drewN | apply Kd.R_drew)); exact HO594.out) hb); have n1_ := Aside0.mk (Kd.R_below (by (with_reducible repeat (first | apply Kd.R_alloc | apply Kd.R_drewN | apply Kd.R_drew)); exact HO597.out) hb); have n2_ := Aside0.mk (Kd.R_below (by (with_reducible repeat (first | apply Kd.R_alloc | apply Kd.R_drewN | apply Kd.R_drew)); exact HO601.out) hb); have n3_ := Aside0.mk (blk_below (g := gb589) (o := .cells #[.int .i64 a0_0, .slice A0_1 l0_1.length c0_1] 24 (0, 0)) (by (with_reducible repeat (first | refine blk_drewN ?_ _ | refine blk_drew ?_ | refine blk_alloc ?_ _)); exact BK589.out) hb); have n4_ := Aside0.mk (below_step (by repeat (first | (with_reducible first | exact HB.out | apply below_alloc | apply pw_below_drewN | apply below_drew1 | refine below_set ?_ GE589.out) | exact HB.out)) hb); have n5_ := Aside0.mk (hbox); have n6_ := Aside0.mk ((by rw [hg]; exact (below_size (by repeat (first | (with_reducible first | exact HB.out | apply below_alloc | apply pw_below_drewN | apply below_drew1 | refine below_set ?_ GE589.out) | exact HB.out))) : w.heap.size ≤ gb602)); have n7_ := Aside0.mk ((by rw [hg]; exact (below_size (by repeat (first | (with_reducible first | exact HB.out | apply below_alloc | apply pw_below_drewN | apply below_drew1 | refine below_set ?_ GE589.out) | exact HB.out))) : w.heap.size ≤ gb602)); have n8_ := Aside0.mk ((by rw [hg]; exact Nat.ne_of_lt (blk_lt (g := gb589) (o := .cells #[.int .i64 a0_0, .slice A0_1 l0_1.length c0_1] 24 (0, 0)) (by (with_reducible repeat (first | refine blk_drewN ?_ _ | refine blk_drew ?_ | refine blk_alloc ?_ _)); exact BK589.out)) : gb589 ≠ gb602)); have n9_ := Aside0.mk ((by rw [hg]; exact Nat.ne_of_gt (blk_lt (g := gb589) (o := .cells #[.int .i64 a0_0, .slice A0_1 l0_1.length c0_1] 24 (0, 0)) (by (with_reducible repeat (first | refine blk_drewN ?_ _ | refine blk_drew ?_ | refine blk_alloc ?_ _)); exact BK589.out)) : gb602 ≠ gb589)); clear HO594; clear HO597; clear HO601; clear BK589; clear HB; have HO594 := n0_; have HO597 := n1_; have HO601 := n2_; have BK589 := n3_; have HB := n4_; have BK602 := n5_; have GW602 := n6_; have GE602 := n7_; have NB589_602 := n8_; have NB602_589 := n9_; clear n0_ n1_ n2_ n3_ n4_ n5_ n6_ n7_ n8_ n9_; clear hb hbox hg; have hnb29 := NB602_589.out; have hnc29 := NB589_602.out; have hcz30_0 : w28.cell? ⟨gb602, 0, none⟩ = some (.int .i64 0) := (blk_cell BK602.out 0).trans rfl; have hcz30_1 : w28.cell? ⟨gb602, 1, none⟩ = some (.slice none 0 0) := (blk_cell BK602.out 1).trans rfl; have hfz30_0 := blk_frozen BK602.out 0; have hfz30_1 := blk_frozen BK602.out 1; obtain ⟨Ao31, co31, eo31⟩ := Kd.R_slice HO601.out; subst eo31) | ((with_reducible refine gate_callee (f := 38) rfl ?_); refine goesL_ (some 26) rfl rfl Try.func38 (by kernel_rfl) rfl #[.agg #[.int .i64 t598, .slice Ao31 t599.length co31], .int .i64 a1] rfl (by (try simp only [List.map_toArray, List.map_cons, List.map_nil]); first | done | rfl | (simp only [List.length_drop, List.length_take]; rfl)) ?_; (with_reducible refine (impl_CoveringFlats.calls k t598 _ _ t599 a1 t603 _ ?side1 ?side2 A11.out).mono ?_); (case side1 => refine (Kd.R_reads' (e := 3) (base := w.heap.size) (ok := fun k_ => ((True ∧ some k_ ≠ (.slice Ao24 t592.length co24 : Value).ownBlock) ∧ some k_ ≠ (v596 : Value).ownBlock)) (n := t599.length) (c := co31) ?_).2.2; exact (by (with_reducible repeat (first | apply Kd.R_alloc | apply Kd.R_drewN | apply Kd.R_drew)); exact (Kd.R_mono (Kd.R_far (p := ⟨gb602, 1, none⟩) (Kd.R_far (p := ⟨gb602, 0, none⟩) (Kd.R_types HO601.out BK602.out (by decide)) (fun _ hk => hk.2) (.int .i64 t598)) (fun _ hk => hk.2) (.slice Ao31 t599.length co31)) (fun _ h_ => h_.1)))); (case side2 => exact (Kd.R_reads' HO601.out).2.1); rintro e w32 ⟨v604, rfl, ho0, hb⟩; refine ⟨_, rfl, ?_⟩; have n0_ := Aside0.mk (Kd.R_elder' (by (with_reducible repeat (first | apply Kd.R_alloc | apply Kd.R_drewN | apply Kd.R_drew)); exact (Kd.R_mono (Kd.R_far (p := ⟨gb602, 1, none⟩) (Kd.R_far (p := ⟨gb602, 0, none⟩) (Kd.R_types HO594.out BK602.out (by decide)) (fun _ hk => hk.2) (.int .i64 t598)) (fun _ hk => hk.2) (.slice Ao31 t599.length co31)) (fun _ h_ => h_.1))) (Kd.R_base ho0) hb); have n1_ := Aside0.mk (Kd.R_elder' (by (with_reducible repeat (first | apply Kd.R_alloc | apply Kd.R_drewN | apply Kd.R_drew)); exact (Kd.R_mono (Kd.R_far (p := ⟨gb602, 1, none⟩) (Kd.R_far (p := ⟨gb602, 0, none⟩) (Kd.R_types HO597.out BK602.out (by decide)) (fun _ hk => hk.2) (.int .i64 t598)) (fun _ hk => hk.2) (.slice Ao31 t599.length co31)) (fun _ h_ => h_.1))) (Kd.R_base ho0) hb); have n2_ := Aside0.mk (Kd.R_elder' (by (with_reducible repeat (first | apply Kd.R_alloc | apply Kd.R_drewN | apply Kd.R_drew)); exact (Kd.R_mono (Kd.R_far (p := ⟨gb602, 1, none⟩) (Kd.R_far (p := ⟨gb602, 0, none⟩) (Kd.R_types HO601.out BK602.out (by decide)) (fun _ hk => hk.2) (.int .i64 t598)) (fun _ hk => hk.2) (.slice Ao31 t599.length co31)) (fun _ h_ => h_.1))) (Kd.R_base ho0) hb); have n3_ := Aside0.mk (Kd.R_lower (Kd.R_new' (Kd.R_new' (Kd.R_new' ho0 (Kd.R_lt (by (with_reducible repeat (first | apply Kd.R_alloc | apply Kd.R_drewN | apply Kd.R_drew)); exact (Kd.R_mono (Kd.R_far (p := ⟨gb602, 1, none⟩) (Kd.R_far (p := ⟨gb602, 0, none⟩) (Kd.R_types HO594.out BK602.out (by decide)) (fun _ hk => hk.2) (.int .i64 t598)) (fun _ hk => hk.2) (.slice Ao31 t599.length co31)) (fun _ h_ => h_.1))))) (Kd.R_lt (by (with_reducible repeat (first | apply Kd.R_alloc | apply Kd.R_drewN | apply Kd.R_drew)); exact (Kd.R_mono (Kd.R_far (p := ⟨gb602, 1, none⟩) (Kd.R_far (p := ⟨gb602, 0, none⟩) (Kd.R_types HO597.out BK602.out (by decide)) (fun _ hk => hk.2) (.int .i64 t598)) (fun _ hk => hk.2) (.slice Ao31 t599.length co31)) (fun _ h_ => h_.1))))) (Kd.R_lt (by (with_reducible repeat (first | apply Kd.R_alloc | apply Kd.R_drewN | apply Kd.R_drew)); exact (Kd.R_mono (Kd.R_far (p := ⟨gb602, 1, none⟩) (Kd.R_far (p := ⟨gb602, 0, none⟩) (Kd.R_types HO601.out BK602.out (by decide)) (fun _ hk => hk.2) (.int .i64 t598)) (fun _ hk => hk.2) (.slice Ao31 t599.length co31)) (fun _ h_ => h_.1))))) (below_size (by repeat (first | (with_reducible first | exact HB.out | apply below_alloc | apply pw_below_drewN | apply below_drew1 | refine below_set ?_ GE589.out | refine below_set ?_ GE602.out) | exact HB.out)))); have n4_ := Aside0.mk (blk_below (g := gb589) (o := .cells #[.int .i64 a0_0, .slice A0_1 l0_1.length c0_1] 24 (0, 0)) (by (with_reducible repeat (first | refine blk_drewN ?_ _ | refine blk_drew ?_ | refine blk_alloc ?_ _)); refine blk_far ?_ NB589_602.out _; (with_reducible repeat (first | refine blk_drewN ?_ _ | refine blk_drew ?_ | refine blk_alloc ?_ _)); refine blk_far ?_ NB589_602.out _; (with_reducible repeat (first | refine blk_drewN ?_ _ | refine blk_drew ?_ | refine blk_alloc ?_ _)); exact BK589.out) hb); have n5_ := Aside0.mk (blk_below (g := gb602) (o := .cells #[.int .i64 t598, .slice Ao31 t599.length co31] 27 (0, 0)) (by (with_reducible repeat (first | refine blk_drewN ?_ _ | refine blk_drew ?_ | refine blk_alloc ?_ _)); refine blk_put (cs := #[.int .i64 t598, .slice none 0 0]) ?_ 1 _ rfl; (with_reducible repeat (first | refine blk_drewN ?_ _ | refine blk_drew ?_ | refine blk_alloc ?_ _)); refine blk_put (cs := #[.int .i64 0, .slice none 0 0]) ?_ 0 _ rfl; (with_reducible repeat (first | refine blk_drewN ?_ _ | refine blk_drew ?_ | refine blk_alloc ?_ _)); exact BK602.out) hb); have n6_ := Aside0.mk (below_step (by repeat (first | (with_reducible first | exact HB.out | apply below_alloc | apply pw_below_drewN | apply below_drew1 | refine below_set ?_ GE589.out | refine below_set ?_ GE602.out) | exact HB.out)) hb); clear HO594; clear HO597; clear HO601; clear BK589; clear BK602; clear HB; have HO594 := n0_; have HO597 := n1_; have HO601 := n2_; have HO605 := n3_; have BK589 := n4_; have BK602 := n5_; have HB := n6_; clear n0_ n1_ n2_ n3_ n4_ n5_ n6_; (try clear hb); (try clear hb2); (try clear hk); (try clear hi); (try clear ho0); obtain ⟨Ao33, co33, eo33⟩ := Kd.R_slice HO605.out; subst eo33; obtain ⟨Ao34, co34, eo34⟩ := Kd.R_slice HO597.out; subst eo34) | ((with_reducible refine gate_callee (f := 21) rfl ?_); refine goesL_ (some 29) rfl rfl Try.func21 (by kernel_rfl) rfl #[.slice Ao33 t603.length co33, .slice Ao34 t595.length co34] rfl (by (try simp only [List.map_toArray, List.map_cons, List.map_nil]); first | done | rfl | (simp only [List.length_drop, List.length_take]; rfl)) ?_; (with_reducible refine (laws_eqIntS.calls k _ _ t603 _ _ t595 true _ ?side1 ?side2 ?side3 ?side4 A12.out).mono ?_); (case side1 => repeat (first | exact (Kd.R_reads' HO605.out).2.2 | (with_reducible refine Kd.C_alloc ?_ _) | (with_reducible refine Kd.C_drewN ?_ _) | (with_reducible refine Kd.C_drew ?_))); (case side2 => exact (Kd.R_reads' HO605.out).2.1); (case side3 => repeat (first | exact (Kd.R_reads' HO597.out).2.2 | (with_reducible refine Kd.C_alloc ?_ _) | (with_reducible refine Kd.C_drewN ?_ _) | (with_reducible refine Kd.C_drew ?_))); (case side4 => exact (Kd.R_reads' HO597.out).2.1); rintro e w' ⟨rfl, ⟨nd, rfl⟩⟩; refine ⟨_, rfl, ?_⟩))
        (try (rw [drewN_self w32]; generalize hq_ : World.drewN w32 _ = w32; have n0_ : Aside0 (Kd.R (Kd.int .i64) 3 w32 w.heap.size (fun k_ => some k_ ≠ (.slice Ao34 t595.length co34 : Value).ownBlock ∧ some k_ ≠ (.slice Ao31 t599.length co31 : Value).ownBlock ∧ some k_ ≠ (.slice Ao33 t603.length co33 : Value).ownBlock) (.slice Ao24 t592.length co24) t592) := ⟨by rw [← hq_]; exact (by (with_reducible repeat (first | apply Kd.R_alloc | apply Kd.R_drewN | apply Kd.R_drew)); exact Kd.R_mono HO594.out (fun _ hk => by first | exact ⟨hk.1.1.2, ⟨hk.1.2, hk.2⟩⟩ | (refine ⟨?_, ?_, ?_⟩ <;> intro e_ <;> simp only [e_, ne_eq, not_true_eq_false, and_false, false_and] at hk)))⟩; have n1_ : Aside0 (Kd.R (Kd.int .i64) 3 w32 w.heap.size (fun k_ => some k_ ≠ (.slice Ao24 t592.length co24 : Value).ownBlock ∧ some k_ ≠ (.slice Ao31 t599.length co31 : Value).ownBlock ∧ some k_ ≠ (.slice Ao33 t603.length co33 : Value).ownBlock) (.slice Ao34 t595.length co34) t595) := ⟨by rw [← hq_]; exact (by (with_reducible repeat (first | apply Kd.R_alloc | apply Kd.R_drewN | apply Kd.R_drew)); exact Kd.R_mono HO597.out (fun _ hk => by first | exact ⟨hk.1.1.2, ⟨hk.1.2, hk.2⟩⟩ | (refine ⟨?_, ?_, ?_⟩ <;> intro e_ <;> simp only [e_, ne_eq, not_true_eq_false, and_false, false_and] at hk)))⟩; have n2_ : Aside0 (Kd.R (Kd.int .i64) 3 w32 w.heap.size (fun k_ => some k_ ≠ (.slice Ao24 t592.length co24 : Value).ownBlock ∧ some k_ ≠ (.slice Ao34 t595.length co34 : Value).ownBlock ∧ some k_ ≠ (.slice Ao33 t603.length co33 : Value).ownBlock) (.slice Ao31 t599.length co31) t599) := ⟨by rw [← hq_]; exact (by (with_reducible repeat (first | apply Kd.R_alloc | apply Kd.R_drewN | apply Kd.R_drew)); exact Kd.R_mono HO601.out (fun _ hk => by first | exact ⟨hk.1.1.2, ⟨hk.1.2, hk.2⟩⟩ | (refine ⟨?_, ?_, ?_⟩ <;> intro e_ <;> simp only [e_, ne_eq, not_true_eq_false, and_false, false_and] at hk)))⟩; have n3_ : Aside0 (Kd.R (Kd.int .i64) 3 w32 w.heap.size (fun k_ => some k_ ≠ (.slice Ao24 t592.length co24 : Value).ownBlock ∧ some k_ ≠ (.slice Ao34 t595.length co34 : Value).ownBlock ∧ some k_ ≠ (.slice Ao31 t599.length co31 : Value).ownBlock) (.slice Ao33 t603.length co33) t603) := ⟨by rw [← hq_]; exact (by (with_reducible repeat (first | apply Kd.R_alloc | apply Kd.R_drewN | apply Kd.R_drew)); exact Kd.R_mono HO605.out (fun _ hk => by first | exact ⟨hk.1.1.2, ⟨hk.1.2, hk.2⟩⟩ | (refine ⟨?_, ?_, ?_⟩ <;> intro e_ <;> simp only [e_, ne_eq, not_true_eq_false, and_false, false_and] at hk)))⟩; have n4_ : Aside0 (w32.heap[gb589]? = some (.cells #[.int .i64 a0_0, .slice A0_1 l0_1.length c0_1] 24 (0, 0))) := ⟨by rw [← hq_]; exact (by (with_reducible repeat (first | refine blk_drewN ?_ _ | refine blk_drew ?_ | refine blk_alloc ?_ _)); exact BK589.out)⟩; have n5_ : Aside0 (w32.heap[gb602]? = some (.cells #[.int .i64 t598, .slice Ao31 t599.length co31] 27 (0, 0))) := ⟨by rw [← hq_]; exact (by (with_reducible repeat (first | refine blk_drewN ?_ _ | refine blk_drew ?_ | refine blk_alloc ?_ _)); exact BK602.out)⟩; have n6_ : Aside0 (Below w.heap.size w w32) := ⟨by rw [← hq_]; exact (by repeat (first | (with_reducible first | exact HB.out | apply below_alloc | apply pw_below_drewN | apply below_drew1 | refine below_set ?_ GE589.out | refine below_set ?_ GE602.out) | exact HB.out))⟩; clear HO594 HO597 HO601 HO605 BK589 BK602 HB hq_; have HO594 := n0_; have HO597 := n1_; have HO601 := n2_; have HO605 := n3_; have BK589 := n4_; have BK602 := n5_; have HB := n6_; clear n0_ n1_ n2_ n3_ n4_ n5_ n6_))
        have n0_ := Aside0.mk (Kd.R_drew HO594.out)
        have n1_ := Aside0.mk (Kd.R_drew HO597.out)
        have n2_ := Aside0.mk (Kd.R_drew HO601.out)
        have n3_ := Aside0.mk (Kd.R_drew HO605.out)
        have n4_ := Aside0.mk (blk_drew BK589.out)
        have n5_ := Aside0.mk (blk_drew BK602.out)
        have n6_ := Aside0.mk (below_drew1 HB.out)
        clear HO594
        clear HO597
        clear HO601
        clear HO605
        clear BK589
        clear BK602
        clear HB
        have HO594 := n0_
        have HO597 := n1_
        have HO601 := n2_
        have HO605 := n3_
        have BK589 := n4_
        have BK602 := n5_
        have HB := n6_
        clear n0_ n1_ n2_ n3_ n4_ n5_ n6_
        refine start_ (n := 5) (S := fun w' => w'.cell? ⟨gb602, 0, none⟩ = some (.int .i64 t598) ∧ w'.cell? ⟨gb602, 1, none⟩ = some (.slice Ao31 t599.length co31) ∧ w'.cell? ⟨gb589, 0, none⟩ = some (.int .i64 a0_0) ∧ w'.cell? ⟨gb589, 1, none⟩ = some (.slice A0_1 l0_1.length c0_1)) (ds := []) #[false, false, false, false, false] (by kernel_rfl) rfl rfl ⟨(blk_cell BK602.out 0).trans rfl, (blk_cell BK602.out 1).trans rfl, (blk_cell BK589.out 0).trans rfl, (blk_cell BK589.out 1).trans rfl⟩ (fun hHeld => ?_)
        generalize w32.drew = w35 at HO594 HO597 HO601 HO605 BK589 BK602 HB hHeld ⊢
        refine take_ (i := 0) (N := some 31) (v := ?_) (a' := ?_) #[true, false, false, false, false] rfl rfl (by kernel_rfl) (fun _ _ _ h => h) (Or.inl ⟨by rfl, ?_⟩) hHeld ?_ ?_
        rotate_left
        · rintro w' ⟨s0, s1, s2, s3⟩
          go_simp
          with_reducible rfl
        rotate_left
        · simp only [Act.put, List.setIfInBounds_toArray, List.set_cons_zero, List.set_cons_succ, i64_w, i32_w]
          rfl
        refine take_ (i := 1) (N := some 32) (v := ?_) (a' := ?_) #[true, true, false, false, false] rfl rfl (by kernel_rfl) (fun _ _ _ h => h) (Or.inl ⟨by rfl, ?_⟩) hHeld ?_ ?_
        rotate_left
        · rintro w' ⟨s0, s1, s2, s3⟩
          go_simp
          with_reducible rfl
        rotate_left
        · simp only [Act.put, List.setIfInBounds_toArray, List.set_cons_zero, List.set_cons_succ, i64_w, i32_w]
          rfl
        refine one_ (i := 2) (N := some 33) #[true, true, true, false, false] rfl rfl (by kernel_rfl) (by decide) (fun K hK => ?_)
        refine goes_ Try.func14 (by kernel_rfl) rfl #[.agg #[.int .i64 a0_0, .slice A0_1 l0_1.length c0_1]] (by rfl) rfl rfl (by (try simp only [List.map_toArray, List.map_cons, List.map_nil]); first | done | rfl | (simp only [List.length_drop, List.length_take]; rfl)) ?_
        with_reducible refine (laws_toMatroid.calls k a0_0 _ _ l0_1 t607 t608 _ ?side1 ?side2 A14.out).mono ?_
        (case side1 => repeat (first | exact (Kd.C_below HR0_1.out HB.out) | (with_reducible refine Kd.C_alloc ?_ _) | (with_reducible refine Kd.C_drewN ?_ _) | (with_reducible refine Kd.C_drew ?_)))
        (case side2 => exact HC0_1.out)
        rintro e w36 ⟨v609, rfl, ho0, hb⟩
        refine ⟨_, rfl, ?_⟩
        have n0_ := Aside0.mk (Kd.R_elder' (by (with_reducible repeat (first | apply Kd.R_alloc | apply Kd.R_drewN | apply Kd.R_drew)); exact HO594.out) (Kd.R_base ho0) hb)
        have n1_ := Aside0.mk (Kd.R_elder' (by (with_reducible repeat (first | apply Kd.R_alloc | apply Kd.R_drewN | apply Kd.R_drew)); exact HO597.out) (Kd.R_base ho0) hb)
        have n2_ := Aside0.mk (Kd.R_elder' (by (with_reducible repeat (first | apply Kd.R_alloc | apply Kd.R_drewN | apply Kd.R_drew)); exact HO601.out) (Kd.R_base ho0) hb)
        have n3_ := Aside0.mk (Kd.R_elder' (by (with_reducible repeat (first | apply Kd.R_alloc | apply Kd.R_drewN | apply Kd.R_drew)); exact HO605.out) (Kd.R_base ho0) hb)
        have n4_ := Aside0.mk (Kd.R_lower (Kd.R_new' (Kd.R_new' (Kd.R_new' (Kd.R_new' ho0 (Kd.R_lt (by (with_reducible repeat (first | apply Kd.R_alloc | apply Kd.R_drewN | apply Kd.R_drew)); exact HO594.out))) (Kd.R_lt (by (with_reducible repeat (first | apply Kd.R_alloc | apply Kd.R_drewN | apply Kd.R_drew)); exact HO597.out))) (Kd.R_lt (by (with_reducible repeat (first | apply Kd.R_alloc | apply Kd.R_drewN | apply Kd.R_drew)); exact HO601.out))) (Kd.R_lt (by (with_reducible repeat (first | apply Kd.R_alloc | apply Kd.R_drewN | apply Kd.R_drew)); exact HO605.out))) (below_size (by repeat (first | (with_reducible first | exact HB.out | apply below_alloc | apply pw_below_drewN | apply below_drew1 | refine below_set ?_ GE589.out | refine below_set ?_ GE602.out) | exact HB.out))))
        have n5_ := Aside0.mk (blk_below (g := gb589) (o := .cells #[.int .i64 a0_0, .slice A0_1 l0_1.length c0_1] 24 (0, 0)) (by (with_reducible repeat (first | refine blk_drewN ?_ _ | refine blk_drew ?_ | refine blk_alloc ?_ _)); exact BK589.out) hb)
        have n6_ := Aside0.mk (blk_below (g := gb602) (o := .cells #[.int .i64 t598, .slice Ao31 t599.length co31] 27 (0, 0)) (by (with_reducible repeat (first | refine blk_drewN ?_ _ | refine blk_drew ?_ | refine blk_alloc ?_ _)); exact BK602.out) hb)
        have n7_ := Aside0.mk (below_step (by repeat (first | (with_reducible first | exact HB.out | apply below_alloc | apply pw_below_drewN | apply below_drew1 | refine below_set ?_ GE589.out | refine below_set ?_ GE602.out) | exact HB.out)) hb)
        clear HO594
        clear HO597
        clear HO601
        clear HO605
        clear BK589
        clear BK602
        clear HB
        have HO594 := n0_
        have HO597 := n1_
        have HO601 := n2_
        have HO605 := n3_
        have HO610 := n4_
        have BK589 := n5_
        have BK602 := n6_
        have HB := n7_
        clear n0_ n1_ n2_ n3_ n4_ n5_ n6_ n7_
        (try clear hb)
        (try clear hb2)
        (try clear hk)
        (try clear hi)
        (try clear ho0)
        obtain ⟨Ao37, co37, eo37⟩ := Kd.R_slice HO610.out
        (first | subst eo37 | (injection eo37 with f1_ f2_ f3_; have f4_ := f1_.symm; have f5_ := f3_.symm; clear f1_ f2_ f3_; subst f4_; subst f5_))
        refine hK.out _ _ ⟨(blk_cell BK602.out 0).trans rfl, (blk_cell BK602.out 1).trans rfl, (blk_cell BK589.out 0).trans rfl, (blk_cell BK589.out 1).trans rfl⟩ (fun hHeld => ?_)
        clear hK K
        refine norm_ (a' := ?_) ?_ ?_
        rotate_left
        · show Act.put _ (some 33) _ = _
          simp only [Act.put, List.setIfInBounds_toArray, List.set_cons_zero, List.set_cons_succ, i64_w, i32_w]
          rfl
        refine one_ (i := 3) (N := some 34) #[true, true, true, true, false] rfl rfl (by kernel_rfl) (by decide) (fun K hK => ?_)
        refine goes_ Try.func16 (by kernel_rfl) rfl #[.agg #[.int .i64 t598, .slice Ao31 t599.length co31], .agg #[.int .i64 t607, .slice Ao37 t608.length co37]] (by rfl) rfl rfl (by (try simp only [List.map_toArray, List.map_cons, List.map_nil]); first | done | rfl | (simp only [List.length_drop, List.length_take]; rfl)) ?_
        with_reducible refine (laws_eqMatroid.calls k t598 _ _ t599 t607 _ _ t608 true _ ?side1 ?side2 ?side3 ?side4 A15.out).mono ?_
        (case side1 => repeat (first | exact (Kd.R_reads' HO601.out).2.2 | (with_reducible refine Kd.C_alloc ?_ _) | (with_reducible refine Kd.C_drewN ?_ _) | (with_reducible refine Kd.C_drew ?_)))
        (case side2 => exact (Kd.R_reads' HO601.out).2.1)
        (case side3 => repeat (first | exact (Kd.R_reads' HO610.out).2.2 | (with_reducible refine Kd.C_alloc ?_ _) | (with_reducible refine Kd.C_drewN ?_ _) | (with_reducible refine Kd.C_drew ?_)))
        (case side4 => exact (Kd.R_reads' HO610.out).2.1)
        rintro e w38 ⟨rfl, hb⟩
        refine ⟨_, rfl, ?_⟩
        have n0_ := Aside0.mk (Kd.R_below (by (with_reducible repeat (first | apply Kd.R_alloc | apply Kd.R_drewN | apply Kd.R_drew)); exact HO594.out) hb)
        have n1_ := Aside0.mk (Kd.R_below (by (with_reducible repeat (first | apply Kd.R_alloc | apply Kd.R_drewN | apply Kd.R_drew)); exact HO597.out) hb)
        have n2_ := Aside0.mk (Kd.R_below (by (with_reducible repeat (first | apply Kd.R_alloc | apply Kd.R_drewN | apply Kd.R_drew)); exact HO601.out) hb)
        have n3_ := Aside0.mk (Kd.R_below (by (with_reducible repeat (first | apply Kd.R_alloc | apply Kd.R_drewN | apply Kd.R_drew)); exact HO605.out) hb)
        have n4_ := Aside0.mk (Kd.R_below (by (with_reducible repeat (first | apply Kd.R_alloc | apply Kd.R_drewN | apply Kd.R_drew)); exact HO610.out) hb)
        have n5_ := Aside0.mk (blk_below (g := gb589) (o := .cells #[.int .i64 a0_0, .slice A0_1 l0_1.length c0_1] 24 (0, 0)) (by (with_reducible repeat (first | refine blk_drewN ?_ _ | refine blk_drew ?_ | refine blk_alloc ?_ _)); exact BK589.out) hb)
        have n6_ := Aside0.mk (blk_below (g := gb602) (o := .cells #[.int .i64 t598, .slice Ao31 t599.length co31] 27 (0, 0)) (by (with_reducible repeat (first | refine blk_drewN ?_ _ | refine blk_drew ?_ | refine blk_alloc ?_ _)); exact BK602.out) hb)
        have n7_ := Aside0.mk (below_step (by repeat (first | (with_reducible first | exact HB.out | apply below_alloc | apply pw_below_drewN | apply below_drew1 | refine below_set ?_ GE589.out | refine below_set ?_ GE602.out) | exact HB.out)) hb)
        clear HO594
        clear HO597
        clear HO601
        clear HO605
        clear HO610
        clear BK589
        clear BK602
        clear HB
        have HO594 := n0_
        have HO597 := n1_
        have HO601 := n2_
        have HO605 := n3_
        have HO610 := n4_
        have BK589 := n5_
        have BK602 := n6_
        have HB := n7_
        clear n0_ n1_ n2_ n3_ n4_ n5_ n6_ n7_
        (try clear hb)
        (try clear hb2)
        (try clear hk)
        (try clear hi)
        refine hK.out _ _ ⟨(blk_cell BK602.out 0).trans rfl, (blk_cell BK602.out 1).trans rfl, (blk_cell BK589.out 0).trans rfl, (blk_cell BK589.out 1).trans rfl⟩ (fun hHeld => ?_)
        clear hK K
        refine norm_ (a' := ?_) ?_ ?_
        rotate_left
        · show Act.put _ (some 34) _ = _
          simp only [Act.put, List.setIfInBounds_toArray, List.set_cons_zero, List.set_cons_succ, i64_w, i32_w]
          rfl
        refine pure_ (i := 4) (N := some 35) (v := ?_) (a' := ?_) #[true, true, true, true, true] rfl rfl (by kernel_rfl) (fun _ _ _ h => h) (Or.inl ⟨by rfl, ?_⟩) ?_ ?_
        rotate_left
        · intro w'
          go_simp
          with_reducible rfl
        rotate_left
        · simp only [Act.put, List.setIfInBounds_toArray, List.set_cons_zero, List.set_cons_succ, i64_w, i32_w]
          rfl
        refine done_ (by kernel_rfl) ?_
        have hcz39_0 : w38.cell? ⟨gb602, 0, none⟩ = some (.int .i64 t598) := (blk_cell BK602.out 0).trans rfl
        have hcz39_1 : w38.cell? ⟨gb602, 1, none⟩ = some (.slice Ao31 t599.length co31) := (blk_cell BK602.out 1).trans rfl
        have hfz39_0 := blk_frozen BK602.out 0
        have hfz39_1 := blk_frozen BK602.out 1
        go_upto_region 14 with (first | ((with_reducible refine gate_callee (f := 22) rfl ?_); refine goesL_ (some 38) rfl rfl Try.func22 (by kernel_rfl) rfl #[.agg #[.int .i64 t598, .slice Ao31 t599.length co31], .int .i64 1] rfl (by (try simp only [List.map_toArray, List.map_cons, List.map_nil]); first | done | rfl | (simp only [List.length_drop, List.length_take]; rfl)) ?_; (with_reducible refine (laws_markMatroid.calls k t598 (fun k_ => some k_ = (.slice Ao31 t599.length co31 : Value).ownBlock) (.slice Ao31 t599.length co31) t599 1 t612 t613 w _ ?side1 ?side2 A17.out).mono ?_); (case side1 => repeat (first | (with_reducible first | exact HB.out | apply below_alloc | apply pw_below_drewN | apply below_drew1 | refine below_set ?_ GE589.out | refine below_set ?_ GE602.out) | exact HB.out)); (case side2 => exact Kd.R_tight rfl HO601.out); rintro e w40 ⟨rfl, hy0, hb, hkp⟩; refine ⟨_, rfl, ?_⟩; have n0_ := Aside0.mk (blk_kept (by (with_reducible repeat (first | refine blk_drewN ?_ _ | refine blk_drew ?_ | refine blk_alloc ?_ _)); exact BK589.out) hkp (fun hs_ => (fun e_ => (Kd.R_ne HO601.out BK589.out (by decide)) e_) hs_)); have n1_ := Aside0.mk (Kd.R_mono (ok' := fun k_ => some k_ ≠ (.slice Ao34 t595.length co34 : Value).ownBlock ∧ some k_ ≠ (.slice Ao31 t599.length co31 : Value).ownBlock ∧ some k_ ≠ (.slice Ao33 t603.length co33 : Value).ownBlock ∧ some k_ ≠ (.slice Ao37 t608.length co37 : Value).ownBlock) (Kd.R_keptB (HO594.out) hkp (fun k_ hk_ hs_ => by first | exact hk_.1.1.2 hs_ | (have e_ : some k_ = _ := hs_; simp only [e_, ne_eq, not_true_eq_false, and_false, false_and] at hk_))) (fun k_ hk_ => by first | exact ⟨hk_.1.1.1.1.2, hk_.1.1.1.2, hk_.1.1.2, hk_.1.2⟩ | (refine ⟨?_, ?_, ?_, ?_⟩ <;> intro e_ <;> simp only [e_, ne_eq, not_true_eq_false, and_false, false_and] at hk_))); have n2_ := Aside0.mk (Kd.R_mono (ok' := fun k_ => some k_ ≠ (.slice Ao24 t592.length co24 : Value).ownBlock ∧ some k_ ≠ (.slice Ao31 t599.length co31 : Value).ownBlock ∧ some k_ ≠ (.slice Ao33 t603.length co33 : Value).ownBlock ∧ some k_ ≠ (.slice Ao37 t608.length co37 : Value).ownBlock) (Kd.R_keptB (HO597.out) hkp (fun k_ hk_ hs_ => by first | exact hk_.1.1.2 hs_ | (have e_ : some k_ = _ := hs_; simp only [e_, ne_eq, not_true_eq_false, and_false, false_and] at hk_))) (fun k_ hk_ => by first | exact ⟨hk_.1.1.1.1.2, hk_.1.1.1.2, hk_.1.1.2, hk_.1.2⟩ | (refine ⟨?_, ?_, ?_, ?_⟩ <;> intro e_ <;> simp only [e_, ne_eq, not_true_eq_false, and_false, false_and] at hk_))); have n3_ := Aside0.mk (Kd.R_reok rfl hy0 (fun k_ e_ => HO601.out.1 k_ e_)); have n4_ := Aside0.mk (blk_kept (by (with_reducible repeat (first | refine blk_drewN ?_ _ | refine blk_drew ?_ | refine blk_alloc ?_ _)); exact BK602.out) hkp (fun hs_ => (fun e_ => (Kd.R_ne HO601.out BK602.out (by decide)) e_) hs_)); have n5_ := Aside0.mk (Kd.R_mono (ok' := fun k_ => some k_ ≠ (.slice Ao24 t592.length co24 : Value).ownBlock ∧ some k_ ≠ (.slice Ao34 t595.length co34 : Value).ownBlock ∧ some k_ ≠ (.slice Ao31 t599.length co31 : Value).ownBlock ∧ some k_ ≠ (.slice Ao37 t608.length co37 : Value).ownBlock) (Kd.R_keptB (HO605.out) hkp (fun k_ hk_ hs_ => by first | exact hk_.1.2 hs_ | (have e_ : some k_ = _ := hs_; simp only [e_, ne_eq, not_true_eq_false, and_false, false_and] at hk_))) (fun k_ hk_ => by first | exact ⟨hk_.1.1.1.1.2, hk_.1.1.1.2, hk_.1.1.2, hk_.1.2⟩ | (refine ⟨?_, ?_, ?_, ?_⟩ <;> intro e_ <;> simp only [e_, ne_eq, not_true_eq_false, and_false, false_and] at hk_))); have n6_ := Aside0.mk (Kd.R_mono (ok' := fun k_ => some k_ ≠ (.slice Ao24 t592.length co24 : Value).ownBlock ∧ some k_ ≠ (.slice Ao34 t595.length co34 : Value).ownBlock ∧ some k_ ≠ (.slice Ao31 t599.length co31 : Value).ownBlock ∧ some k_ ≠ (.slice Ao33 t603.length co33 : Value).ownBlock) (Kd.R_keptB (HO610.out) hkp (fun k_ hk_ hs_ => by first | exact hk_.1.2 hs_ | (have e_ : some k_ = _ := hs_; simp only [e_, ne_eq, not_true_eq_false, and_false, false_and] at hk_))) (fun k_ hk_ => by first | exact ⟨hk_.1.1.1.1.2, hk_.1.1.1.2, hk_.1.1.2, hk_.1.2⟩ | (refine ⟨?_, ?_, ?_, ?_⟩ <;> intro e_ <;> simp only [e_, ne_eq, not_true_eq_false, and_false, false_and] at hk_))); have n7_ := Aside0.mk (hb); clear BK589; clear HO594; clear HO597; clear HO601; clear BK602; clear HO605; clear HO610; clear HB; have BK589 := n0_; have HO594 := n1_; have HO597 := n2_; have HO601 := n3_; have BK602 := n4_; have HO605 := n5_; have HO610 := n6_; have HB := n7_; clear n0_ n1_ n2_ n3_ n4_ n5_ n6_ n7_; (try clear hb); (try clear hkp); (try clear hy0)))
        (try simp only [Act.put, List.setIfInBounds_toArray, List.set_cons_zero, List.set_cons_succ])
        go_cut [46] (fun v46 wc => ∃ (kq : Nat) (x46_17 : Bool), v46 = .bool x46_17 ∧ Aside0 (laws_FnExactCoveringFlats.j0 kq a1 t595 t603 x46_17 a0_0 l0_1 = some r) ∧ Aside0 (kq ≤ k) ∧ Aside0 (Kd.R (Kd.int .i64) 3 wc w.heap.size (fun k_ => some k_ ≠ ((.slice Ao33 t603.length co33) : Value).ownBlock ∧ some k_ ≠ ((.slice Ao31 t599.length co31) : Value).ownBlock) (.slice Ao34 t595.length co34) t595) ∧ Aside0 (Kd.R (Kd.int .i64) 3 wc w.heap.size (fun k_ => some k_ ≠ ((.slice Ao34 t595.length co34) : Value).ownBlock ∧ some k_ ≠ ((.slice Ao31 t599.length co31) : Value).ownBlock) (.slice Ao33 t603.length co33) t603) ∧ Aside0 (Kd.R (Kd.int .i64) 3 wc w.heap.size (fun k_ => some k_ ≠ ((.slice Ao34 t595.length co34) : Value).ownBlock ∧ some k_ ≠ ((.slice Ao33 t603.length co33) : Value).ownBlock) (.slice Ao31 t599.length co31) t613) ∧ Aside0 (wc.heap[gb589]? = some (.cells #[.int .i64 a0_0, (.slice A0_1 l0_1.length c0_1)] 24 (0, 0))) ∧ Aside0 (wc.heap[gb602]? = some (.cells #[.int .i64 t598, (.slice Ao31 t599.length co31)] 27 (0, 0))) ∧ Aside0 (Below w.heap.size w wc))
        case first =>
          have H := HC18.out
          clear HC18
          by_cases c41 : t612 < 0
          · rw [if_pos c41] at H
            have c41b0 : decide (t612 < 0) = true := decide_eq_true c41
            clear c41
            (first | rw [c41b0] | (simp only [i64_w, i32_w]; rw [c41b0]) | skip)
            have H' := Aside0.mk H
            clear H
            go_wp2
            go_meet
            case rel => exact ⟨_, (true), (by first | rfl | (simp; done) | (simp [*]; done)), H', ⟨by first | omega | exact Nat.le_refl _⟩, ⟨by (with_reducible repeat (first | apply Kd.R_alloc | apply Kd.R_drewN | apply Kd.R_drew)); exact Kd.R_mono HO597.out (fun _ hk => by first | exact ⟨hk.2.2.1, hk.2.1⟩ | (refine ⟨?_, ?_⟩ <;> intro e_ <;> simp only [e_, ne_eq, not_true_eq_false, and_false, false_and] at hk))⟩, ⟨by (with_reducible repeat (first | apply Kd.R_alloc | apply Kd.R_drewN | apply Kd.R_drew)); exact Kd.R_mono HO605.out (fun _ hk => by first | exact ⟨hk.2.1, hk.2.2.1⟩ | (refine ⟨?_, ?_⟩ <;> intro e_ <;> simp only [e_, ne_eq, not_true_eq_false, and_false, false_and] at hk))⟩, ⟨by (with_reducible repeat (first | apply Kd.R_alloc | apply Kd.R_drewN | apply Kd.R_drew)); exact Kd.R_mono HO601.out (fun _ hk => by first | exact ⟨hk.1.1.2, hk.1.2⟩ | (refine ⟨?_, ?_⟩ <;> intro e_ <;> simp only [e_, ne_eq, not_true_eq_false, and_false, false_and] at hk))⟩, ⟨by (with_reducible repeat (first | refine blk_drewN ?_ _ | refine blk_drew ?_ | refine blk_alloc ?_ _)); exact BK589.out⟩, ⟨by (with_reducible repeat (first | refine blk_drewN ?_ _ | refine blk_drew ?_ | refine blk_alloc ?_ _)); exact BK602.out⟩, ⟨by repeat (first | (with_reducible first | exact HB.out | apply below_alloc | apply pw_below_drewN | apply below_drew1 | refine below_set ?_ GE589.out | refine below_set ?_ GE602.out) | exact HB.out)⟩⟩
          · rw [if_neg c41] at H
            have c41b0 : decide (t612 < 0) = false := decide_eq_false c41
            clear c41
            (first | rw [c41b0] | (simp only [i64_w, i32_w]; rw [c41b0]) | skip)
            replace H := Option.bind_eq_some_iff.mp H
            obtain ⟨t614, A420, H⟩ := H
            replace H : (laws_FnExactCoveringFlats.j0 k a1 t595 t603 (!t614) a0_0 l0_1) = some r := H
            have A42 := Aside0.mk A420
            clear A420
            have H' := Aside0.mk H
            clear H
            go_wp2_with (first | (go_at_call 21; (try simp only [i64_w, i32_w]); (with_reducible refine (laws_eqIntS.calls k _ _ t603 _ _ t595 t614 _ ?side1 ?side2 ?side3 ?side4 A42.out).mono ?_); (case side1 => repeat (first | exact (Kd.R_reads' HO605.out).2.2 | (with_reducible refine Kd.C_alloc ?_ _) | (with_reducible refine Kd.C_drewN ?_ _) | (with_reducible refine Kd.C_drew ?_))); (case side2 => exact (Kd.R_reads' HO605.out).2.1); (case side3 => repeat (first | exact (Kd.R_reads' HO597.out).2.2 | (with_reducible refine Kd.C_alloc ?_ _) | (with_reducible refine Kd.C_drewN ?_ _) | (with_reducible refine Kd.C_drew ?_))); (case side4 => exact (Kd.R_reads' HO597.out).2.1); rintro e w' ⟨rfl, ⟨nd, rfl⟩⟩))
            go_meet
            case rel => exact ⟨_, (!t614), (by first | rfl | (simp; done) | (simp [*]; done)), H', ⟨by first | omega | exact Nat.le_refl _⟩, ⟨by (with_reducible repeat (first | apply Kd.R_alloc | apply Kd.R_drewN | apply Kd.R_drew)); exact Kd.R_mono HO597.out (fun _ hk => by first | exact ⟨hk.2.2.1, hk.2.1⟩ | (refine ⟨?_, ?_⟩ <;> intro e_ <;> simp only [e_, ne_eq, not_true_eq_false, and_false, false_and] at hk))⟩, ⟨by (with_reducible repeat (first | apply Kd.R_alloc | apply Kd.R_drewN | apply Kd.R_drew)); exact Kd.R_mono HO605.out (fun _ hk => by first | exact ⟨hk.2.1, hk.2.2.1⟩ | (refine ⟨?_, ?_⟩ <;> intro e_ <;> simp only [e_, ne_eq, not_true_eq_false, and_false, false_and] at hk))⟩, ⟨by (with_reducible repeat (first | apply Kd.R_alloc | apply Kd.R_drewN | apply Kd.R_drew)); exact Kd.R_mono HO601.out (fun _ hk => by first | exact ⟨hk.1.1.2, hk.1.2⟩ | (refine ⟨?_, ?_⟩ <;> intro e_ <;> simp only [e_, ne_eq, not_true_eq_false, and_false, false_and] at hk))⟩, ⟨by (with_reducible repeat (first | refine blk_drewN ?_ _ | refine blk_drew ?_ | refine blk_alloc ?_ _)); exact BK589.out⟩, ⟨by (with_reducible repeat (first | refine blk_drewN ?_ _ | refine blk_drew ?_ | refine blk_alloc ?_ _)); exact BK602.out⟩, ⟨by repeat (first | (with_reducible first | exact HB.out | apply below_alloc | apply pw_below_drewN | apply below_drew1 | refine below_set ?_ GE589.out | refine below_set ?_ GE602.out) | exact HB.out)⟩⟩
        case rest =>
          clear HC18
          try clear c1
          try clear c2
          try clear p2
          try clear c3
          try clear c4
          try clear c4b0
          try clear c11
          try clear c12
          try clear c13
          try clear c14
          try clear c16
          try clear c21
          try clear c22
          try clear c29
          try clear c37
          try clear c38
          try clear c41
          try clear c41b0
          try clear hcz20_0
          try clear hcz20_1
          try clear hcz22_0
          try clear hcz22_1
          try clear hcz26_0
          try clear hcz26_1
          try clear hcz30_0
          try clear hcz30_1
          try clear hcz39_0
          try clear hcz39_1
          try clear hcz6_0
          try clear hcz6_1
          try clear hfz20_0
          try clear hfz20_1
          try clear hfz22_0
          try clear hfz22_1
          try clear hfz26_0
          try clear hfz26_1
          try clear hfz30_0
          try clear hfz30_1
          try clear hfz39_0
          try clear hfz39_1
          try clear hfz6_0
          try clear hfz6_1
          obtain ⟨kq, x46_17, rfl, HA, HJ17, HO_6, HO_8, HO_603001, BK589, BK602, HB⟩ := hcut
          have hl603001_17 := (Kd.R_reads' HO_603001.out).1
          rw [hl603001_17] at HO_603001
          (try simp only [hl603001_17])
          (try simp only [hl603001_17] at BK589)
          (try simp only [hl603001_17] at BK602)
          (try simp only [hl603001_17] at HO_6)
          (try simp only [hl603001_17] at HO_8)
          cases kq with
          | zero => exact absurd HA.out (by simp [laws_FnExactCoveringFlats.j0])
          | succ kj17 =>
            have H := HA.out
            clear HA
            simp only [laws_FnExactCoveringFlats.j0] at H
            by_cases c43 : x46_17 = true
            · subst c43
              have H1 : (none) = some r := by rw [if_pos rfl] at H; exact H
              clear H
              have H := H1
              clear H1
              exact absurd H (by simp)
            · replace c43 := Bool.eq_false_iff.mpr c43
              subst c43
              have H1 : ((laws_markIntS.f kj17 t603 1).bind fun bt615 => ((laws_heldIntS.f kj17 bt615.2 1).bind fun t617 => (if t617 < 0 then (none) else (if t617 = bt615.1 then ((laws_toMatroid.f kj17 a0_0 l0_1).bind fun bt618 => ((impl_CoveringFlats.f kj17 bt618.1 bt618.2 a1).bind fun t622 => ((laws_eqIntS.f kj17 t622 t595).bind fun t625 => (if t625 = true then ((laws_heldIntS.f kj17 bt615.2 1).bind fun t626 => (if t626 < 0 then (none) else (if t626 = bt615.1 then (some true) else (none)))) else (none))))) else (none))))) = some r := by rw [if_neg (show ¬ (false = true) by decide)] at H; exact H
              clear H
              have H := H1
              clear H1
              replace H := Option.bind_eq_some_iff.mp H
              obtain ⟨⟨t615, t616⟩, A440, H⟩ := H
              replace H : ((laws_heldIntS.f kj17 t616 1).bind fun t617 => (if t617 < 0 then (none) else (if t617 = t615 then ((laws_toMatroid.f kj17 a0_0 l0_1).bind fun bt618 => ((impl_CoveringFlats.f kj17 bt618.1 bt618.2 a1).bind fun t622 => ((laws_eqIntS.f kj17 t622 t595).bind fun t625 => (if t625 = true then ((laws_heldIntS.f kj17 t616 1).bind fun t626 => (if t626 < 0 then (none) else (if t626 = t615 then (some true) else (none)))) else (none))))) else (none)))) = some r := H
              have A44 := Aside0.mk A440
              clear A440
              replace H := Option.bind_eq_some_iff.mp H
              obtain ⟨t617, A450, H⟩ := H
              replace H : (if t617 < 0 then (none) else (if t617 = t615 then ((laws_toMatroid.f kj17 a0_0 l0_1).bind fun bt618 => ((impl_CoveringFlats.f kj17 bt618.1 bt618.2 a1).bind fun t622 => ((laws_eqIntS.f kj17 t622 t595).bind fun t625 => (if t625 = true then ((laws_heldIntS.f kj17 t616 1).bind fun t626 => (if t626 < 0 then (none) else (if t626 = t615 then (some true) else (none)))) else (none))))) else (none))) = some r := H
              have A45 := Aside0.mk A450
              clear A450
              by_cases c46 : t617 < 0
              · rw [if_pos c46] at H
                exact absurd H (by simp)
              · rw [if_neg c46] at H
                have c46b0 : decide (t617 < 0) = false := decide_eq_false c46
                clear c46
                by_cases c47 : t617 = t615
                · rw [if_pos c47] at H
                  have c47b0 : (t617 == t615) = true := beq_iff_eq.mpr c47
                  have c47b1 : (t617 != t615) = false := bne_eq_false_iff_eq.mpr c47
                  clear c47
                  replace H := Option.bind_eq_some_iff.mp H
                  obtain ⟨⟨t618, t619⟩, A480, H⟩ := H
                  replace H : ((impl_CoveringFlats.f kj17 t618 t619 a1).bind fun t622 => ((laws_eqIntS.f kj17 t622 t595).bind fun t625 => (if t625 = true then ((laws_heldIntS.f kj17 t616 1).bind fun t626 => (if t626 < 0 then (none) else (if t626 = t615 then (some true) else (none)))) else (none)))) = some r := H
                  have A48 := Aside0.mk A480
                  clear A480
                  replace H := Option.bind_eq_some_iff.mp H
                  obtain ⟨t622, A490, H⟩ := H
                  replace H : ((laws_eqIntS.f kj17 t622 t595).bind fun t625 => (if t625 = true then ((laws_heldIntS.f kj17 t616 1).bind fun t626 => (if t626 < 0 then (none) else (if t626 = t615 then (some true) else (none)))) else (none))) = some r := H
                  have A49 := Aside0.mk A490
                  clear A490
                  replace H := Option.bind_eq_some_iff.mp H
                  obtain ⟨t625, A500, H⟩ := H
                  replace H : (if t625 = true then ((laws_heldIntS.f kj17 t616 1).bind fun t626 => (if t626 < 0 then (none) else (if t626 = t615 then (some true) else (none)))) else (none)) = some r := H
                  have A50 := Aside0.mk A500
                  clear A500
                  by_cases c51 : t625 = true
                  · subst c51
                    have H1 : ((laws_heldIntS.f kj17 t616 1).bind fun t626 => (if t626 < 0 then (none) else (if t626 = t615 then (some true) else (none)))) = some r := by rw [if_pos rfl] at H; exact H
                    clear H
                    have H := H1
                    clear H1
                    replace H := Option.bind_eq_some_iff.mp H
                    obtain ⟨t626, A520, H⟩ := H
                    replace H : (if t626 < 0 then (none) else (if t626 = t615 then (some true) else (none))) = some r := H
                    have A52 := Aside0.mk A520
                    clear A520
                    by_cases c53 : t626 < 0
                    · rw [if_pos c53] at H
                      exact absurd H (by simp)
                    · rw [if_neg c53] at H
                      have c53b0 : decide (t626 < 0) = false := decide_eq_false c53
                      clear c53
                      by_cases c54 : t626 = t615
                      · rw [if_pos c54] at H
                        have c54b0 : (t626 == t615) = true := beq_iff_eq.mpr c54
                        have c54b1 : (t626 != t615) = false := bne_eq_false_iff_eq.mpr c54
                        clear c54
                        obtain rfl := Option.some.inj H
                        go_wp2_with (first | ((with_reducible refine gate_callee (f := 23) rfl ?_); refine goesL_ (some 49) rfl rfl Try.func23 (by kernel_rfl) rfl #[.slice Ao33 t603.length co33, .int .i64 1] rfl (by (try simp only [List.map_toArray, List.map_cons, List.map_nil]); first | done | rfl | (simp only [List.length_drop, List.length_take]; rfl)) ?_; (with_reducible refine (laws_markIntS.calls kj17 (fun k_ => some k_ = (.slice Ao33 t603.length co33 : Value).ownBlock) (.slice Ao33 t603.length co33) t603 1 t615 t616 w _ ?side1 ?side2 A44.out).mono ?_); (case side1 => repeat (first | (with_reducible first | exact HB.out | apply below_alloc | apply pw_below_drewN | apply below_drew1 | refine below_set ?_ GE589.out | refine below_set ?_ GE602.out) | exact HB.out)); (case side2 => exact Kd.R_tight rfl HO_8.out); rintro e w55 ⟨rfl, hy0, hb, hkp⟩; refine ⟨_, rfl, ?_⟩; have n0_ := Aside0.mk (Kd.R_mono (ok' := fun k_ => some k_ ≠ (.slice Ao33 t603.length co33 : Value).ownBlock ∧ some k_ ≠ (.slice Ao31 t613.length co31 : Value).ownBlock) (Kd.R_keptB (HO_6.out) hkp (fun k_ hk_ hs_ => by first | exact hk_.1 hs_ | (have e_ : some k_ = _ := hs_; simp only [e_, ne_eq, not_true_eq_false, and_false, false_and] at hk_))) (fun k_ hk_ => by first | exact ⟨hk_.1.1, hk_.1.2⟩ | (refine ⟨?_, ?_⟩ <;> intro e_ <;> simp only [e_, ne_eq, not_true_eq_false, and_false, false_and] at hk_))); have n1_ := Aside0.mk (Kd.R_reok rfl hy0 (fun k_ e_ => HO_8.out.1 k_ e_)); have n2_ := Aside0.mk (Kd.R_mono (ok' := fun k_ => some k_ ≠ (.slice Ao34 t595.length co34 : Value).ownBlock ∧ some k_ ≠ (.slice Ao33 t603.length co33 : Value).ownBlock) (Kd.R_keptB (HO_603001.out) hkp (fun k_ hk_ hs_ => by first | exact hk_.2 hs_ | (have e_ : some k_ = _ := hs_; simp only [e_, ne_eq, not_true_eq_false, and_false, false_and] at hk_))) (fun k_ hk_ => by first | exact ⟨hk_.1.1, hk_.1.2⟩ | (refine ⟨?_, ?_⟩ <;> intro e_ <;> simp only [e_, ne_eq, not_true_eq_false, and_false, false_and] at hk_))); have n3_ := Aside0.mk (blk_kept (by (with_reducible repeat (first | refine blk_drewN ?_ _ | refine blk_drew ?_ | refine blk_alloc ?_ _)); exact BK589.out) hkp (fun hs_ => (fun e_ => (Kd.R_ne HO_8.out BK589.out (by decide)) e_) hs_)); have n4_ := Aside0.mk (blk_kept (by (with_reducible repeat (first | refine blk_drewN ?_ _ | refine blk_drew ?_ | refine blk_alloc ?_ _)); exact BK602.out) hkp (fun hs_ => (fun e_ => (Kd.R_ne HO_8.out BK602.out (by decide)) e_) hs_)); have n5_ := Aside0.mk (hb); clear HO_6; clear HO_8; clear HO_603001; clear BK589; clear BK602; clear HB; have HO_6 := n0_; have HO_8 := n1_; have HO_603001 := n2_; have BK589 := n3_; have BK602 := n4_; have HB := n5_; clear n0_ n1_ n2_ n3_ n4_ n5_; (try clear hb); (try clear hkp); (try clear hy0)) | ((with_reducible refine gate_callee (f := 24) rfl ?_); refine goesL_ (some 52) rfl rfl Try.func24 (by kernel_rfl) rfl #[.slice Ao33 t616.length co33, .int .i64 1] rfl (by (try simp only [List.map_toArray, List.map_cons, List.map_nil]); first | done | (rw [show t616.length = t603.length from (Kd.R_reads' HO_8.out).1.symm] <;> rfl) | rfl | (simp only [List.length_drop, List.length_take]; rfl)) ?_; (with_reducible refine (laws_heldIntS.calls kj17 _ _ t616 1 t617 _ ?side1 ?side2 A45.out).mono ?_); (case side1 => repeat (first | exact (Kd.R_reads' HO_8.out).2.2 | (with_reducible refine Kd.C_alloc ?_ _) | (with_reducible refine Kd.C_drewN ?_ _) | (with_reducible refine Kd.C_drew ?_))); (case side2 => rw [show t616.length = t603.length from (Kd.R_reads' HO_8.out).1.symm]; exact (Kd.R_reads' HO_8.out).2.1); rintro e w' ⟨rfl, ⟨nd, rfl⟩⟩; refine ⟨_, rfl, ?_⟩; have hnb56 := NB589_602.out; have hnc56 := NB602_589.out; have hcz57_0 : w55.cell? ⟨gb589, 0, none⟩ = some (.int .i64 a0_0) := (blk_cell BK589.out 0).trans rfl; have hcz57_1 : w55.cell? ⟨gb589, 1, none⟩ = some (.slice A0_1 l0_1.length c0_1) := (blk_cell BK589.out 1).trans rfl; have hfz57_0 := blk_frozen BK589.out 0; have hfz57_1 := blk_frozen BK589.out 1) | ((with_reducible refine gate_callee (f := 14) rfl ?_); refine goesL_ (some 59) rfl rfl Try.func14 (by kernel_rfl) rfl #[.agg #[.int .i64 a0_0, .slice A0_1 l0_1.length c0_1]] rfl (by (try simp only [List.map_toArray, List.map_cons, List.map_nil]); first | done | rfl | (simp only [List.length_drop, List.length_take]; rfl)) ?_; (with_reducible refine (laws_toMatroid.calls kj17 a0_0 _ _ l0_1 t618 t619 _ ?side1 ?side2 A48.out).mono ?_); (case side1 => repeat (first | exact (Kd.C_below HR0_1.out (by repeat (first | (with_reducible first | exact HB.out | apply below_alloc | apply pw_below_drewN | apply below_drew1 | refine below_set ?_ GE589.out | refine below_set ?_ GE602.out) | exact HB.out))) | (with_reducible refine Kd.C_alloc ?_ _) | (with_reducible refine Kd.C_drewN ?_ _) | (with_reducible refine Kd.C_drew ?_))); (case side2 => exact HC0_1.out); rintro e w58 ⟨v620, rfl, ho0, hb⟩; refine ⟨_, rfl, ?_⟩; have n0_ := Aside0.mk (Kd.R_elder' (by (with_reducible repeat (first | apply Kd.R_alloc | apply Kd.R_drewN | apply Kd.R_drew)); exact HO_6.out) (Kd.R_base ho0) hb); have n1_ := Aside0.mk (Kd.R_elder' (by (with_reducible repeat (first | apply Kd.R_alloc | apply Kd.R_drewN | apply Kd.R_drew)); exact HO_8.out) (Kd.R_base ho0) hb); have n2_ := Aside0.mk (Kd.R_elder' (by (with_reducible repeat (first | apply Kd.R_alloc | apply Kd.R_drewN | apply Kd.R_drew)); exact HO_603001.out) (Kd.R_base ho0) hb); have n3_ := Aside0.mk (Kd.R_lower (Kd.R_new' (Kd.R_new' (Kd.R_new' ho0 (Kd.R_lt (by (with_reducible repeat (first | apply Kd.R_alloc | apply Kd.R_drewN | apply Kd.R_drew)); exact HO_6.out))) (Kd.R_lt (by (with_reducible repeat (first | apply Kd.R_alloc | apply Kd.R_drewN | apply Kd.R_drew)); exact HO_8.out))) (Kd.R_lt (by (with_reducible repeat (first | apply Kd.R_alloc | apply Kd.R_drewN | apply Kd.R_drew)); exact HO_603001.out))) (below_size (by repeat (first | (with_reducible first | exact HB.out | apply below_alloc | apply pw_below_drewN | apply below_drew1 | refine below_set ?_ GE589.out | refine below_set ?_ GE602.out) | exact HB.out)))); have n4_ := Aside0.mk (blk_below (g := gb589) (o := .cells #[.int .i64 a0_0, .slice A0_1 l0_1.length c0_1] 24 (0, 0)) (by (with_reducible repeat (first | refine blk_drewN ?_ _ | refine blk_drew ?_ | refine blk_alloc ?_ _)); exact BK589.out) hb); have n5_ := Aside0.mk (blk_below (g := gb602) (o := .cells #[.int .i64 t598, .slice Ao31 t613.length co31] 27 (0, 0)) (by (with_reducible repeat (first | refine blk_drewN ?_ _ | refine blk_drew ?_ | refine blk_alloc ?_ _)); exact BK602.out) hb); have n6_ := Aside0.mk (below_step (by repeat (first | (with_reducible first | exact HB.out | apply below_alloc | apply pw_below_drewN | apply below_drew1 | refine below_set ?_ GE589.out | refine below_set ?_ GE602.out) | exact HB.out)) hb); clear HO_6; clear HO_8; clear HO_603001; clear BK589; clear BK602; clear HB; have HO_6 := n0_; have HO_8 := n1_; have HO_603001 := n2_; have HO621 := n3_; have BK589 := n4_; have BK602 := n5_; have HB := n6_; clear n0_ n1_ n2_ n3_ n4_ n5_ n6_; (try clear hb); (try clear hb2); (try clear hk); (try clear hi); (try clear ho0); obtain ⟨Ao59, co59, eo59⟩ := Kd.R_slice HO621.out; subst eo59) | ((with_reducible refine gate_callee (f := 38) rfl ?_); refine goesL_ (some 61) rfl rfl Try.func38 (by kernel_rfl) rfl #[.agg #[.int .i64 t618, .slice Ao59 t619.length co59], .int .i64 a1] rfl (by (try simp only [List.map_toArray, List.map_cons, List.map_nil]); first | done | rfl | (simp only [List.length_drop, List.length_take]; rfl)) ?_; (with_reducible refine (impl_CoveringFlats.calls kj17 t618 _ _ t619 a1 t622 _ ?side1 ?side2 A49.out).mono ?_); (case side1 => repeat (first | exact (Kd.R_reads' HO621.out).2.2 | (with_reducible refine Kd.C_alloc ?_ _) | (with_reducible refine Kd.C_drewN ?_ _) | (with_reducible refine Kd.C_drew ?_))); (case side2 => exact (Kd.R_reads' HO621.out).2.1); rintro e w60 ⟨v623, rfl, ho0, hb⟩; refine ⟨_, rfl, ?_⟩; have n0_ := Aside0.mk (Kd.R_elder' (by (with_reducible repeat (first | apply Kd.R_alloc | apply Kd.R_drewN | apply Kd.R_drew)); exact HO_6.out) (Kd.R_base ho0) hb); have n1_ := Aside0.mk (Kd.R_elder' (by (with_reducible repeat (first | apply Kd.R_alloc | apply Kd.R_drewN | apply Kd.R_drew)); exact HO_8.out) (Kd.R_base ho0) hb); have n2_ := Aside0.mk (Kd.R_elder' (by (with_reducible repeat (first | apply Kd.R_alloc | apply Kd.R_drewN | apply Kd.R_drew)); exact HO_603001.out) (Kd.R_base ho0) hb); have n3_ := Aside0.mk (Kd.R_elder' (by (with_reducible repeat (first | apply Kd.R_alloc | apply Kd.R_drewN | apply Kd.R_drew)); exact HO621.out) (Kd.R_base ho0) hb); have n4_ := Aside0.mk (Kd.R_lower (Kd.R_new' (Kd.R_new' (Kd.R_new' (Kd.R_new' ho0 (Kd.R_lt (by (with_reducible repeat (first | apply Kd.R_alloc | apply Kd.R_drewN | apply Kd.R_drew)); exact HO_6.out))) (Kd.R_lt (by (with_reducible repeat (first | apply Kd.R_alloc | apply Kd.R_drewN | apply Kd.R_drew)); exact HO_8.out))) (Kd.R_lt (by (with_reducible repeat (first | apply Kd.R_alloc | apply Kd.R_drewN | apply Kd.R_drew)); exact HO_603001.out))) (Kd.R_lt (by (with_reducible repeat (first | apply Kd.R_alloc | apply Kd.R_drewN | apply Kd.R_drew)); exact HO621.out))) (below_size (by repeat (first | (with_reducible first | exact HB.out | apply below_alloc | apply pw_below_drewN | apply below_drew1 | refine below_set ?_ GE589.out | refine below_set ?_ GE602.out) | exact HB.out)))); have n5_ := Aside0.mk (blk_below (g := gb589) (o := .cells #[.int .i64 a0_0, .slice A0_1 l0_1.length c0_1] 24 (0, 0)) (by (with_reducible repeat (first | refine blk_drewN ?_ _ | refine blk_drew ?_ | refine blk_alloc ?_ _)); exact BK589.out) hb); have n6_ := Aside0.mk (blk_below (g := gb602) (o := .cells #[.int .i64 t598, .slice Ao31 t613.length co31] 27 (0, 0)) (by (with_reducible repeat (first | refine blk_drewN ?_ _ | refine blk_drew ?_ | refine blk_alloc ?_ _)); exact BK602.out) hb); have n7_ := Aside0.mk (below_step (by repeat (first | (with_reducible first | exact HB.out | apply below_alloc | apply pw_below_drewN | apply below_drew1 | refine below_set ?_ GE589.out | refine below_set ?_ GE602.out) | exact HB.out)) hb); clear HO_6; clear HO_8; clear HO_603001; clear HO621; clear BK589; clear BK602; clear HB; have HO_6 := n0_; have HO_8 := n1_; have HO_603001 := n2_; have HO621 := n3_; have HO624 := n4_; have BK589 := n5_; have BK602 := n6_; have HB := n7_; clear n0_ n1_ n2_ n3_ n4_ n5_ n6_ n7_; (try clear hb); (try clear hb2); (try clear hk); (try clear hi); (try clear ho0); obtain ⟨Ao61, co61, eo61⟩ := Kd.R_slice HO624.out; subst eo61) | ((with_reducible refine gate_callee (f := 21) rfl ?_); refine goesL_ (some 64) rfl rfl Try.func21 (by kernel_rfl) rfl #[.slice Ao61 t622.length co61, .slice Ao34 t595.length co34] rfl (by (try simp only [List.map_toArray, List.map_cons, List.map_nil]); first | done | rfl | (simp only [List.length_drop, List.length_take]; rfl)) ?_; (with_reducible refine (laws_eqIntS.calls kj17 _ _ t622 _ _ t595 true _ ?side1 ?side2 ?side3 ?side4 A50.out).mono ?_); (case side1 => repeat (first | exact (Kd.R_reads' HO624.out).2.2 | (with_reducible refine Kd.C_alloc ?_ _) | (with_reducible refine Kd.C_drewN ?_ _) | (with_reducible refine Kd.C_drew ?_))); (case side2 => exact (Kd.R_reads' HO624.out).2.1); (case side3 => repeat (first | exact (Kd.R_reads' HO_6.out).2.2 | (with_reducible refine Kd.C_alloc ?_ _) | (with_reducible refine Kd.C_drewN ?_ _) | (with_reducible refine Kd.C_drew ?_))); (case side4 => exact (Kd.R_reads' HO_6.out).2.1); rintro e w' ⟨rfl, ⟨nd, rfl⟩⟩; refine ⟨_, rfl, ?_⟩) | ((with_reducible refine gate_callee (f := 24) rfl ?_); refine goesL_ (some 68) rfl rfl Try.func24 (by kernel_rfl) rfl #[.slice Ao33 t616.length co33, .int .i64 1] rfl (by (try simp only [List.map_toArray, List.map_cons, List.map_nil]); first | done | (rw [show t616.length = t603.length from (Kd.R_reads' HO_8.out).1.symm] <;> rfl) | rfl | (simp only [List.length_drop, List.length_take]; rfl)) ?_; (with_reducible refine (laws_heldIntS.calls kj17 _ _ t616 1 t626 _ ?side1 ?side2 A52.out).mono ?_); (case side1 => repeat (first | exact (Kd.R_reads' HO_8.out).2.2 | (with_reducible refine Kd.C_alloc ?_ _) | (with_reducible refine Kd.C_drewN ?_ _) | (with_reducible refine Kd.C_drew ?_))); (case side2 => rw [show t616.length = t603.length from (Kd.R_reads' HO_8.out).1.symm]; exact (Kd.R_reads' HO_8.out).2.1); rintro e w' ⟨rfl, ⟨nd, rfl⟩⟩; refine ⟨_, rfl, ?_⟩))
                        go_ret
                        exact ⟨by first | rfl | (simp [errW_none, errW_some] <;> rfl) | (simp [*, errW_none, errW_some] <;> rfl), by repeat (first | (with_reducible first | exact HB.out | apply below_alloc | apply pw_below_drewN | apply below_drew1 | refine below_set ?_ GE589.out | refine below_set ?_ GE602.out) | exact HB.out)⟩
                      · rw [if_neg c54] at H
                        exact absurd H (by simp)
                  · replace c51 := Bool.eq_false_iff.mpr c51
                    subst c51
                    have H1 : (none) = some r := by rw [if_neg (show ¬ (false = true) by decide)] at H; exact H
                    clear H
                    have H := H1
                    clear H1
                    exact absurd H (by simp)
                · rw [if_neg c47] at H
                  exact absurd H (by simp)
      · replace c16 := Bool.eq_false_iff.mpr c16
        subst c16
        have H1 : (none) = some r := by rw [if_neg (show ¬ (false = true) by decide)] at H; exact H
        clear H
        have H := H1
        clear H1
        exact absurd H (by simp)
    · replace c13 := Bool.eq_false_iff.mpr c13
      subst c13
      have H1 : (none) = some r := by rw [if_neg (show ¬ (false = true) by decide)] at H; exact H
      clear H
      have H := H1
      clear H1
      exact absurd H (by simp)

end Go.Proofs.Ytmeopnlkddflaaa.F
end
section
namespace Go.Proofs.Ytmeopnlkddflaaa.F
open Go.RowKit Go.Proofs.YtmeopnlkddflaaaW.PrintWords Go.Proofs.YtmeopnlkddflaaaW.PrintLast Go.Proofs.YtmeopnlkddflaaaW.PrintMore
attribute [local go_sem] max2_int min2_int max_two min_two max_three min_three max_four min_four   -- for this text's walks alone
set_option linter.unusedVariables false
set_option linter.unusedSimpArgs false

def impl_Flats.f (k : Nat) (a0_0 : Int) (l0_1 : List Int) : Option (List Int) := (impl_IsMatroid.f k a0_0 l0_1).bind fun t216 => (if t216 = true then ((impl_flatsIn.f k a0_0 l0_1).bind fun t217 => (some t217)) else (some ([] : List Int)))
set_option maxHeartbeats 8000000 in
set_option maxRecDepth 100000 in
theorem impl_Flats.calls (k : Nat) (a0_0 : Int) (A0_1 : Option Addr) (c0_1 : Nat) (l0_1 : List Int) (r : List Int) (w : World) (hr0_1 : Kd.C (Kd.int .i64) w A0_1 l0_1.length l0_1) (hc0_1 : l0_1.length ≤ c0_1) (h : impl_Flats.f k a0_0 l0_1 = some r) :
    Calls Try.prog 28 #[.agg #[.int .i64 a0_0, .slice A0_1 l0_1.length c0_1]] w fun e w' => ∃ v0_ : Value, e = .returned (v0_) ∧ Kd.R (Kd.int .i64) 3 w' w.heap.size (fun _ => True) v0_ r ∧ Below w.heap.size w w' := by
  have hu27 := Try.underlying27
  have HR0_1 := Aside0.mk hr0_1
  have HC0_1 := Aside0.mk hc0_1
  clear hr0_1 hc0_1
  have HB := Aside0.mk (Below.refl w.heap.size w)
  have H : ((impl_IsMatroid.f k a0_0 l0_1).bind fun t216 => (if t216 = true then ((impl_flatsIn.f k a0_0 l0_1).bind fun t217 => (some t217)) else (some ([] : List Int)))) = some r := h
  clear h
  replace H := Option.bind_eq_some_iff.mp H
  obtain ⟨t216, A20, H⟩ := H
  replace H : (if t216 = true then ((impl_flatsIn.f k a0_0 l0_1).bind fun t217 => (some t217)) else (some ([] : List Int))) = some r := H
  have A2 := Aside0.mk A20
  clear A20
  by_cases c3 : t216 = true
  · subst c3
    have H1 : ((impl_flatsIn.f k a0_0 l0_1).bind fun t217 => (some t217)) = some r := by rw [if_pos rfl] at H; exact H
    clear H
    have H := H1
    clear H1
    replace H := Option.bind_eq_some_iff.mp H
    obtain ⟨t217, A40, H⟩ := H
    replace H : (some t217) = some r := H
    have A4 := Aside0.mk A40
    clear A40
    obtain rfl := Option.some.inj H
    go_enter Try.func28, Try.ntmps28
    go_wp2_with (first | ((with_reducible refine gate_dst (N := 1) rfl ?_); refine box_event ?hg (N := 1) ?hd (cs := #[.int .i64 a0_0, .slice A0_1 l0_1.length c0_1]) (t := 27) ?hr ?_; (case hd => rfl); (case hg => rfl); (case hr => first | (go_simp; done) | (go_simp; rfl)); intro gb215 hg w5 hbox hb; have n0_ := Aside0.mk (below_step (by repeat (first | (with_reducible first | exact HB.out | apply below_alloc | apply pw_below_drewN | apply below_drew1) | exact HB.out)) hb); have n1_ := Aside0.mk (hbox); have n2_ := Aside0.mk ((by rw [hg]; exact (below_size (by repeat (first | (with_reducible first | exact HB.out | apply below_alloc | apply pw_below_drewN | apply below_drew1) | exact HB.out))) : w.heap.size ≤ gb215)); have n3_ := Aside0.mk ((by rw [hg]; exact (below_size (by repeat (first | (with_reducible first | exact HB.out | apply below_alloc | apply pw_below_drewN | apply below_drew1) | exact HB.out))) : w.heap.size ≤ gb215)); clear HB; have HB := n0_; have BK215 := n1_; have GW215 := n2_; have GE215 := n3_; clear n0_ n1_ n2_ n3_; clear hb hbox hg; have hcz6_0 : w5.cell? ⟨gb215, 0, none⟩ = some (.int .i64 a0_0) := (blk_cell BK215.out 0).trans rfl; have hcz6_1 : w5.cell? ⟨gb215, 1, none⟩ = some (.slice A0_1 l0_1.length c0_1) := (blk_cell BK215.out 1).trans rfl; have hfz6_0 := blk_frozen BK215.out 0; have hfz6_1 := blk_frozen BK215.out 1) | ((with_reducible refine gate_callee (f := 50) rfl ?_); refine goesL_ (some 4) rfl rfl Try.func50 (by kernel_rfl) rfl #[.agg #[.int .i64 a0_0, .slice A0_1 l0_1.length c0_1]] rfl (by (try simp only [List.map_toArray, List.map_cons, List.map_nil]); first | done | rfl | (simp only [List.length_drop, List.length_take]; rfl)) ?_; (with_reducible refine (impl_IsMatroid.calls k a0_0 _ _ l0_1 true _ ?side1 ?side2 A2.out).mono ?_); (case side1 => repeat (first | exact (Kd.C_below HR0_1.out HB.out) | (with_reducible refine Kd.C_alloc ?_ _) | (with_reducible refine Kd.C_drewN ?_ _) | (with_reducible refine Kd.C_drew ?_))); (case side2 => exact HC0_1.out); rintro e w7 ⟨rfl, hb⟩; refine ⟨_, rfl, ?_⟩; have n0_ := Aside0.mk (blk_below (g := gb215) (o := .cells #[.int .i64 a0_0, .slice A0_1 l0_1.length c0_1] 27 (0, 0)) (by (with_reducible repeat (first | refine blk_drewN ?_ _ | refine blk_drew ?_ | refine blk_alloc ?_ _)); exact BK215.out) hb); have n1_ := Aside0.mk (below_step (by repeat (first | (with_reducible first | exact HB.out | apply below_alloc | apply pw_below_drewN | apply below_drew1 | refine below_set ?_ GE215.out) | exact HB.out)) hb); clear BK215; clear HB; have BK215 := n0_; have HB := n1_; clear n0_ n1_; (try clear hb); (try clear hb2); (try clear hk); (try clear hi); have hcz8_0 : w7.cell? ⟨gb215, 0, none⟩ = some (.int .i64 a0_0) := (blk_cell BK215.out 0).trans rfl; have hcz8_1 : w7.cell? ⟨gb215, 1, none⟩ = some (.slice A0_1 l0_1.length c0_1) := (blk_cell BK215.out 1).trans rfl; have hfz8_0 := blk_frozen BK215.out 0; have hfz8_1 := blk_frozen BK215.out 1) | ((with_reducible refine gate_callee (f := 53) rfl ?_); refine goesL_ (some 7) rfl rfl Try.func53 (by kernel_rfl) rfl #[.agg #[.int .i64 a0_0, .slice A0_1 l0_1.length c0_1]] rfl (by (try simp only [List.map_toArray, List.map_cons, List.map_nil]); first | done | rfl | (simp only [List.length_drop, List.length_take]; rfl)) ?_; (with_reducible refine (impl_flatsIn.calls k a0_0 _ _ l0_1 t217 _ ?side1 ?side2 A4.out).mono ?_); (case side1 => repeat (first | exact (Kd.C_below HR0_1.out HB.out) | (with_reducible refine Kd.C_alloc ?_ _) | (with_reducible refine Kd.C_drewN ?_ _) | (with_reducible refine Kd.C_drew ?_))); (case side2 => exact HC0_1.out); rintro e w9 ⟨v218, rfl, ho0, hb⟩; refine ⟨_, rfl, ?_⟩; have n0_ := Aside0.mk (Kd.R_lower ho0 (below_size (by repeat (first | (with_reducible first | exact HB.out | apply below_alloc | apply pw_below_drewN | apply below_drew1 | refine below_set ?_ GE215.out) | exact HB.out)))); have n1_ := Aside0.mk (blk_below (g := gb215) (o := .cells #[.int .i64 a0_0, .slice A0_1 l0_1.length c0_1] 27 (0, 0)) (by (with_reducible repeat (first | refine blk_drewN ?_ _ | refine blk_drew ?_ | refine blk_alloc ?_ _)); exact BK215.out) hb); have n2_ := Aside0.mk (below_step (by repeat (first | (with_reducible first | exact HB.out | apply below_alloc | apply pw_below_drewN | apply below_drew1 | refine below_set ?_ GE215.out) | exact HB.out)) hb); clear BK215; clear HB; have HO219 := n0_; have BK215 := n1_; have HB := n2_; clear n0_ n1_ n2_; (try clear hb); (try clear hb2); (try clear hk); (try clear hi); (try clear ho0)))
    go_ret
    exact ⟨_, by first | rfl | (simp [errW_none, errW_some] <;> rfl) | (simp [*, errW_none, errW_some] <;> rfl), by (with_reducible repeat (first | apply Kd.R_alloc | apply Kd.R_drewN | apply Kd.R_drew)); exact HO219.out, by repeat (first | (with_reducible first | exact HB.out | apply below_alloc | apply pw_below_drewN | apply below_drew1 | refine below_set ?_ GE215.out) | exact HB.out)⟩
  · replace c3 := Bool.eq_false_iff.mpr c3
    subst c3
    have H1 : (some ([] : List Int)) = some r := by rw [if_neg (show ¬ (false = true) by decide)] at H; exact H
    clear H
    have H := H1
    clear H1
    obtain rfl := Option.some.inj H
    go_enter Try.func28, Try.ntmps28
    go_wp2_with (first | ((with_reducible refine gate_dst (N := 1) rfl ?_); refine box_event ?hg (N := 1) ?hd (cs := #[.int .i64 a0_0, .slice A0_1 l0_1.length c0_1]) (t := 27) ?hr ?_; (case hd => rfl); (case hg => rfl); (case hr => first | (go_simp; done) | (go_simp; rfl)); intro gb215 hg w10 hbox hb; have n0_ := Aside0.mk (below_step (by repeat (first | (with_reducible first | exact HB.out | apply below_alloc | apply pw_below_drewN | apply below_drew1) | exact HB.out)) hb); have n1_ := Aside0.mk (hbox); have n2_ := Aside0.mk ((by rw [hg]; exact (below_size (by repeat (first | (with_reducible first | exact HB.out | apply below_alloc | apply pw_below_drewN | apply below_drew1) | exact HB.out))) : w.heap.size ≤ gb215)); have n3_ := Aside0.mk ((by rw [hg]; exact (below_size (by repeat (first | (with_reducible first | exact HB.out | apply below_alloc | apply pw_below_drewN | apply below_drew1) | exact HB.out))) : w.heap.size ≤ gb215)); clear HB; have HB := n0_; have BK215 := n1_; have GW215 := n2_; have GE215 := n3_; clear n0_ n1_ n2_ n3_; clear hb hbox hg; have hcz11_0 : w10.cell? ⟨gb215, 0, none⟩ = some (.int .i64 a0_0) := (blk_cell BK215.out 0).trans rfl; have hcz11_1 : w10.cell? ⟨gb215, 1, none⟩ = some (.slice A0_1 l0_1.length c0_1) := (blk_cell BK215.out 1).trans rfl; have hfz11_0 := blk_frozen BK215.out 0; have hfz11_1 := blk_frozen BK215.out 1) | ((with_reducible refine gate_callee (f := 50) rfl ?_); refine goesL_ (some 4) rfl rfl Try.func50 (by kernel_rfl) rfl #[.agg #[.int .i64 a0_0, .slice A0_1 l0_1.length c0_1]] rfl (by (try simp only [List.map_toArray, List.map_cons, List.map_nil]); first | done | rfl | (simp only [List.length_drop, List.length_take]; rfl)) ?_; (with_reducible refine (impl_IsMatroid.calls k a0_0 _ _ l0_1 false _ ?side1 ?side2 A2.out).mono ?_); (case side1 => repeat (first | exact (Kd.C_below HR0_1.out HB.out) | (with_reducible refine Kd.C_alloc ?_ _) | (with_reducible refine Kd.C_drewN ?_ _) | (with_reducible refine Kd.C_drew ?_))); (case side2 => exact HC0_1.out); rintro e w12 ⟨rfl, hb⟩; refine ⟨_, rfl, ?_⟩; have n0_ := Aside0.mk (blk_below (g := gb215) (o := .cells #[.int .i64 a0_0, .slice A0_1 l0_1.length c0_1] 27 (0, 0)) (by (with_reducible repeat (first | refine blk_drewN ?_ _ | refine blk_drew ?_ | refine blk_alloc ?_ _)); exact BK215.out) hb); have n1_ := Aside0.mk (below_step (by repeat (first | (with_reducible first | exact HB.out | apply below_alloc | apply pw_below_drewN | apply below_drew1 | refine below_set ?_ GE215.out) | exact HB.out)) hb); clear BK215; clear HB; have BK215 := n0_; have HB := n1_; clear n0_ n1_; (try clear hb); (try clear hb2); (try clear hk); (try clear hi)))
    go_ret
    exact ⟨_, by first | rfl | (simp [errW_none, errW_some] <;> rfl) | (simp [*, errW_none, errW_some] <;> rfl), by first | exact Kd.R_nil _ _ _ _ _ | exact Kd.N_nil _ _ _ _ _ | exact Kd.V_nil _ _ _ _ _ | exact Kd.Q_nil _ _ _ _ _ | exact Kd.S_nil _ _ _ _ _, by repeat (first | (with_reducible first | exact HB.out | apply below_alloc | apply pw_below_drewN | apply below_drew1 | refine below_set ?_ GE215.out) | exact HB.out)⟩

end Go.Proofs.Ytmeopnlkddflaaa.F
end
section
namespace Go.Proofs.Ytmeopnlkddflaaa.F
open Go.RowKit Go.Proofs.YtmeopnlkddflaaaW.PrintWords Go.Proofs.YtmeopnlkddflaaaW.PrintLast Go.Proofs.YtmeopnlkddflaaaW.PrintMore
attribute [local go_sem] max2_int min2_int max_two min_two max_three min_three max_four min_four   -- for this text's walks alone
set_option linter.unusedVariables false
set_option linter.unusedSimpArgs false

def spec_RankOf.f (k : Nat) (a0_0 : Int) (l0_1 : List Int) (a1 : Int) : Option (Int) := (spec_IsMatroid.f k a0_0 l0_1).bind fun t666 => (if t666 = true then ((spec_IsSet.f a0_0 a1).bind fun t667 => (if t667 = true then ((spec_l5Rank.f k a0_0 l0_1 a1).bind fun t668 => (some t668)) else (some (-1)))) else (some (-1)))
set_option maxHeartbeats 8000000 in
set_option maxRecDepth 100000 in
theorem spec_RankOf.calls (k : Nat) (a0_0 : Int) (A0_1 : Option Addr) (c0_1 : Nat) (l0_1 : List Int) (a1 : Int) (r : Int) (w : World) (hr0_1 : Kd.C (Kd.int .i64) w A0_1 l0_1.length l0_1) (hc0_1 : l0_1.length ≤ c0_1) (h : spec_RankOf.f k a0_0 l0_1 a1 = some r) :
    Calls Try.prog 40 #[.agg #[.int .i64 a0_0, .slice A0_1 l0_1.length c0_1], .int .i64 a1] w fun e w' => e = .returned (.int .i64 r) ∧ Below w.heap.size w w' := by
  have hu27 := Try.underlying27
  have HR0_1 := Aside0.mk hr0_1
  have HC0_1 := Aside0.mk hc0_1
  clear hr0_1 hc0_1
  have HB := Aside0.mk (Below.refl w.heap.size w)
  have H : ((spec_IsMatroid.f k a0_0 l0_1).bind fun t666 => (if t666 = true then ((spec_IsSet.f a0_0 a1).bind fun t667 => (if t667 = true then ((spec_l5Rank.f k a0_0 l0_1 a1).bind fun t668 => (some t668)) else (some (-1)))) else (some (-1)))) = some r := h
  clear h
  replace H := Option.bind_eq_some_iff.mp H
  obtain ⟨t666, A30, H⟩ := H
  replace H : (if t666 = true then ((spec_IsSet.f a0_0 a1).bind fun t667 => (if t667 = true then ((spec_l5Rank.f k a0_0 l0_1 a1).bind fun t668 => (some t668)) else (some (-1)))) else (some (-1))) = some r := H
  have A3 := Aside0.mk A30
  clear A30
  by_cases c4 : t666 = true
  · subst c4
    have H1 : ((spec_IsSet.f a0_0 a1).bind fun t667 => (if t667 = true then ((spec_l5Rank.f k a0_0 l0_1 a1).bind fun t668 => (some t668)) else (some (-1)))) = some r := by rw [if_pos rfl] at H; exact H
    clear H
    have H := H1
    clear H1
    replace H := Option.bind_eq_some_iff.mp H
    obtain ⟨t667, A50, H⟩ := H
    replace H : (if t667 = true then ((spec_l5Rank.f k a0_0 l0_1 a1).bind fun t668 => (some t668)) else (some (-1))) = some r := H
    have A5 := Aside0.mk A50
    clear A50
    by_cases c6 : t667 = true
    · subst c6
      have H1 : ((spec_l5Rank.f k a0_0 l0_1 a1).bind fun t668 => (some t668)) = some r := by rw [if_pos rfl] at H; exact H
      clear H
      have H := H1
      clear H1
      replace H := Option.bind_eq_some_iff.mp H
      obtain ⟨t668, A70, H⟩ := H
      replace H : (some t668) = some r := H
      have A7 := Aside0.mk A70
      clear A70
      obtain rfl := Option.some.inj H
      go_enter Try.func40, Try.ntmps40
      go_wp2_with (first | ((with_reducible refine gate_dst (N := 2) rfl ?_); refine box_event ?hg (N := 2) ?hd (cs := #[.int .i64 a0_0, .slice A0_1 l0_1.length c0_1]) (t := 27) ?hr ?_; (case hd => rfl); (case hg => rfl); (case hr => first | (go_simp; done) | (go_simp; rfl)); intro gb665 hg w8 hbox hb; have n0_ := Aside0.mk (below_step (by repeat (first | (with_reducible first | exact HB.out | apply below_alloc | apply pw_below_drewN | apply below_drew1) | exact HB.out)) hb); have n1_ := Aside0.mk (hbox); have n2_ := Aside0.mk ((by rw [hg]; exact (below_size (by repeat (first | (with_reducible first | exact HB.out | apply below_alloc | apply pw_below_drewN | apply below_drew1) | exact HB.out))) : w.heap.size ≤ gb665)); have n3_ := Aside0.mk ((by rw [hg]; exact (below_size (by repeat (first | (with_reducible first | exact HB.out | apply below_alloc | apply pw_below_drewN | apply below_drew1) | exact HB.out))) : w.heap.size ≤ gb665)); clear HB; have HB := n0_; have BK665 := n1_; have GW665 := n2_; have GE665 := n3_; clear n0_ n1_ n2_ n3_; clear hb hbox hg; have hcz9_0 : w8.cell? ⟨gb665, 0, none⟩ = some (.int .i64 a0_0) := (blk_cell BK665.out 0).trans rfl; have hcz9_1 : w8.cell? ⟨gb665, 1, none⟩ = some (.slice A0_1 l0_1.length c0_1) := (blk_cell BK665.out 1).trans rfl; have hfz9_0 := blk_frozen BK665.out 0; have hfz9_1 := blk_frozen BK665.out 1) | ((with_reducible refine gate_callee (f := 49) rfl ?_); refine goesL_ (some 6) rfl rfl Try.func49 (by kernel_rfl) rfl #[.agg #[.int .i64 a0_0, .slice A0_1 l0_1.length c0_1]] rfl (by (try simp only [List.map_toArray, List.map_cons, List.map_nil]); first | done | rfl | (simp only [List.length_drop, List.length_take]; rfl)) ?_; (with_reducible refine (spec_IsMatroid.calls k a0_0 _ _ l0_1 true _ ?side1 ?side2 A3.out).mono ?_); (case side1 => repeat (first | exact (Kd.C_below HR0_1.out HB.out) | (with_reducible refine Kd.C_alloc ?_ _) | (with_reducible refine Kd.C_drewN ?_ _) | (with_reducible refine Kd.C_drew ?_))); (case side2 => exact HC0_1.out); rintro e w10 ⟨rfl, hb⟩; refine ⟨_, rfl, ?_⟩; have n0_ := Aside0.mk (blk_below (g := gb665) (o := .cells #[.int .i64 a0_0, .slice A0_1 l0_1.length c0_1] 27 (0, 0)) (by (with_reducible repeat (first | refine blk_drewN ?_ _ | refine blk_drew ?_ | refine blk_alloc ?_ _)); exact BK665.out) hb); have n1_ := Aside0.mk (below_step (by repeat (first | (with_reducible first | exact HB.out | apply below_alloc | apply pw_below_drewN | apply below_drew1 | refine below_set ?_ GE665.out) | exact HB.out)) hb); clear BK665; clear HB; have BK665 := n0_; have HB := n1_; clear n0_ n1_; (try clear hb); (try clear hb2); (try clear hk); (try clear hi); have hcz11_0 : w10.cell? ⟨gb665, 0, none⟩ = some (.int .i64 a0_0) := (blk_cell BK665.out 0).trans rfl; have hcz11_1 : w10.cell? ⟨gb665, 1, none⟩ = some (.slice A0_1 l0_1.length c0_1) := (blk_cell BK665.out 1).trans rfl; have hfz11_0 := blk_frozen BK665.out 0; have hfz11_1 := blk_frozen BK665.out 1) | (go_at_call 66; (try simp only [i64_w, i32_w]); (with_reducible refine (spec_IsSet.calls a0_0 a1 true _ A5.out).mono ?_); rintro e w' ⟨rfl, ⟨nd, rfl⟩⟩) | ((with_reducible refine gate_callee (f := 42) rfl ?_); refine goesL_ (some 17) rfl rfl Try.func42 (by kernel_rfl) rfl #[.agg #[.int .i64 a0_0, .slice A0_1 l0_1.length c0_1], .int .i64 a1] rfl (by (try simp only [List.map_toArray, List.map_cons, List.map_nil]); first | done | rfl | (simp only [List.length_drop, List.length_take]; rfl)) ?_; (with_reducible refine (spec_l5Rank.calls k a0_0 _ _ l0_1 a1 t668 _ ?side1 ?side2 A7.out).mono ?_); (case side1 => repeat (first | exact (Kd.C_below HR0_1.out (by repeat (first | (with_reducible first | exact HB.out | apply below_alloc | apply pw_below_drewN | apply below_drew1 | refine below_set ?_ GE665.out) | exact HB.out))) | (with_reducible refine Kd.C_alloc ?_ _) | (with_reducible refine Kd.C_drewN ?_ _) | (with_reducible refine Kd.C_drew ?_))); (case side2 => exact HC0_1.out); rintro e w12 ⟨rfl, hb⟩; refine ⟨_, rfl, ?_⟩; have n0_ := Aside0.mk (blk_below (g := gb665) (o := .cells #[.int .i64 a0_0, .slice A0_1 l0_1.length c0_1] 27 (0, 0)) (by (with_reducible repeat (first | refine blk_drewN ?_ _ | refine blk_drew ?_ | refine blk_alloc ?_ _)); exact BK665.out) hb); have n1_ := Aside0.mk (below_step (by repeat (first | (with_reducible first | exact HB.out | apply below_alloc | apply pw_below_drewN | apply below_drew1 | refine below_set ?_ GE665.out) | exact HB.out)) hb); clear BK665; clear HB; have BK665 := n0_; have HB := n1_; clear n0_ n1_; (try clear hb); (try clear hb2); (try clear hk); (try clear hi)))
      go_ret
      exact ⟨by first | rfl | (simp [errW_none, errW_some] <;> rfl) | (simp [*, errW_none, errW_some] <;> rfl), by repeat (first | (with_reducible first | exact HB.out | apply below_alloc | apply pw_below_drewN | apply below_drew1 | refine below_set ?_ GE665.out) | exact HB.out)⟩
    · replace c6 := Bool.eq_false_iff.mpr c6
      subst c6
      have H1 : (some (-1)) = some r := by rw [if_neg (show ¬ (false = true) by decide)] at H; exact H
      clear H
      have H := H1
      clear H1
      obtain rfl := Option.some.inj H
      go_enter Try.func40, Try.ntmps40
      go_wp2_with (first | ((with_reducible refine gate_dst (N := 2) rfl ?_); refine box_event ?hg (N := 2) ?hd (cs := #[.int .i64 a0_0, .slice A0_1 l0_1.length c0_1]) (t := 27) ?hr ?_; (case hd => rfl); (case hg => rfl); (case hr => first | (go_simp; done) | (go_simp; rfl)); intro gb665 hg w13 hbox hb; have n0_ := Aside0.mk (below_step (by repeat (first | (with_reducible first | exact HB.out | apply below_alloc | apply pw_below_drewN | apply below_drew1) | exact HB.out)) hb); have n1_ := Aside0.mk (hbox); have n2_ := Aside0.mk ((by rw [hg]; exact (below_size (by repeat (first | (with_reducible first | exact HB.out | apply below_alloc | apply pw_below_drewN | apply below_drew1) | exact HB.out))) : w.heap.size ≤ gb665)); have n3_ := Aside0.mk ((by rw [hg]; exact (below_size (by repeat (first | (with_reducible first | exact HB.out | apply below_alloc | apply pw_below_drewN | apply below_drew1) | exact HB.out))) : w.heap.size ≤ gb665)); clear HB; have HB := n0_; have BK665 := n1_; have GW665 := n2_; have GE665 := n3_; clear n0_ n1_ n2_ n3_; clear hb hbox hg; have hcz14_0 : w13.cell? ⟨gb665, 0, none⟩ = some (.int .i64 a0_0) := (blk_cell BK665.out 0).trans rfl; have hcz14_1 : w13.cell? ⟨gb665, 1, none⟩ = some (.slice A0_1 l0_1.length c0_1) := (blk_cell BK665.out 1).trans rfl; have hfz14_0 := blk_frozen BK665.out 0; have hfz14_1 := blk_frozen BK665.out 1) | ((with_reducible refine gate_callee (f := 49) rfl ?_); refine goesL_ (some 6) rfl rfl Try.func49 (by kernel_rfl) rfl #[.agg #[.int .i64 a0_0, .slice A0_1 l0_1.length c0_1]] rfl (by (try simp only [List.map_toArray, List.map_cons, List.map_nil]); first | done | rfl | (simp only [List.length_drop, List.length_take]; rfl)) ?_; (with_reducible refine (spec_IsMatroid.calls k a0_0 _ _ l0_1 true _ ?side1 ?side2 A3.out).mono ?_); (case side1 => repeat (first | exact (Kd.C_below HR0_1.out HB.out) | (with_reducible refine Kd.C_alloc ?_ _) | (with_reducible refine Kd.C_drewN ?_ _) | (with_reducible refine Kd.C_drew ?_))); (case side2 => exact HC0_1.out); rintro e w15 ⟨rfl, hb⟩; refine ⟨_, rfl, ?_⟩; have n0_ := Aside0.mk (blk_below (g := gb665) (o := .cells #[.int .i64 a0_0, .slice A0_1 l0_1.length c0_1] 27 (0, 0)) (by (with_reducible repeat (first | refine blk_drewN ?_ _ | refine blk_drew ?_ | refine blk_alloc ?_ _)); exact BK665.out) hb); have n1_ := Aside0.mk (below_step (by repeat (first | (with_reducible first | exact HB.out | apply below_alloc | apply pw_below_drewN | apply below_drew1 | refine below_set ?_ GE665.out) | exact HB.out)) hb); clear BK665; clear HB; have BK665 := n0_; have HB := n1_; clear n0_ n1_; (try clear hb); (try clear hb2); (try clear hk); (try clear hi); have hcz16_0 : w15.cell? ⟨gb665, 0, none⟩ = some (.int .i64 a0_0) := (blk_cell BK665.out 0).trans rfl; have hcz16_1 : w15.cell? ⟨gb665, 1, none⟩ = some (.slice A0_1 l0_1.length c0_1) := (blk_cell BK665.out 1).trans rfl; have hfz16_0 := blk_frozen BK665.out 0; have hfz16_1 := blk_frozen BK665.out 1) | (go_at_call 66; (try simp only [i64_w, i32_w]); (with_reducible refine (spec_IsSet.calls a0_0 a1 false _ A5.out).mono ?_); rintro e w' ⟨rfl, ⟨nd, rfl⟩⟩))
      go_ret
      exact ⟨by first | rfl | (simp [errW_none, errW_some] <;> rfl) | (simp [*, errW_none, errW_some] <;> rfl), by repeat (first | (with_reducible first | exact HB.out | apply below_alloc | apply pw_below_drewN | apply below_drew1 | refine below_set ?_ GE665.out) | exact HB.out)⟩
  · replace c4 := Bool.eq_false_iff.mpr c4
    subst c4
    have H1 : (some (-1)) = some r := by rw [if_neg (show ¬ (false = true) by decide)] at H; exact H
    clear H
    have H := H1
    clear H1
    obtain rfl := Option.some.inj H
    go_enter Try.func40, Try.ntmps40
    go_wp2_with (first | ((with_reducible refine gate_dst (N := 2) rfl ?_); refine box_event ?hg (N := 2) ?hd (cs := #[.int .i64 a0_0, .slice A0_1 l0_1.length c0_1]) (t := 27) ?hr ?_; (case hd => rfl); (case hg => rfl); (case hr => first | (go_simp; done) | (go_simp; rfl)); intro gb665 hg w17 hbox hb; have n0_ := Aside0.mk (below_step (by repeat (first | (with_reducible first | exact HB.out | apply below_alloc | apply pw_below_drewN | apply below_drew1) | exact HB.out)) hb); have n1_ := Aside0.mk (hbox); have n2_ := Aside0.mk ((by rw [hg]; exact (below_size (by repeat (first | (with_reducible first | exact HB.out | apply below_alloc | apply pw_below_drewN | apply below_drew1) | exact HB.out))) : w.heap.size ≤ gb665)); have n3_ := Aside0.mk ((by rw [hg]; exact (below_size (by repeat (first | (with_reducible first | exact HB.out | apply below_alloc | apply pw_below_drewN | apply below_drew1) | exact HB.out))) : w.heap.size ≤ gb665)); clear HB; have HB := n0_; have BK665 := n1_; have GW665 := n2_; have GE665 := n3_; clear n0_ n1_ n2_ n3_; clear hb hbox hg; have hcz18_0 : w17.cell? ⟨gb665, 0, none⟩ = some (.int .i64 a0_0) := (blk_cell BK665.out 0).trans rfl; have hcz18_1 : w17.cell? ⟨gb665, 1, none⟩ = some (.slice A0_1 l0_1.length c0_1) := (blk_cell BK665.out 1).trans rfl; have hfz18_0 := blk_frozen BK665.out 0; have hfz18_1 := blk_frozen BK665.out 1) | ((with_reducible refine gate_callee (f := 49) rfl ?_); refine goesL_ (some 6) rfl rfl Try.func49 (by kernel_rfl) rfl #[.agg #[.int .i64 a0_0, .slice A0_1 l0_1.length c0_1]] rfl (by (try simp only [List.map_toArray, List.map_cons, List.map_nil]); first | done | rfl | (simp only [List.length_drop, List.length_take]; rfl)) ?_; (with_reducible refine (spec_IsMatroid.calls k a0_0 _ _ l0_1 false _ ?side1 ?side2 A3.out).mono ?_); (case side1 => repeat (first | exact (Kd.C_below HR0_1.out HB.out) | (with_reducible refine Kd.C_alloc ?_ _) | (with_reducible refine Kd.C_drewN ?_ _) | (with_reducible refine Kd.C_drew ?_))); (case side2 => exact HC0_1.out); rintro e w19 ⟨rfl, hb⟩; refine ⟨_, rfl, ?_⟩; have n0_ := Aside0.mk (blk_below (g := gb665) (o := .cells #[.int .i64 a0_0, .slice A0_1 l0_1.length c0_1] 27 (0, 0)) (by (with_reducible repeat (first | refine blk_drewN ?_ _ | refine blk_drew ?_ | refine blk_alloc ?_ _)); exact BK665.out) hb); have n1_ := Aside0.mk (below_step (by repeat (first | (with_reducible first | exact HB.out | apply below_alloc | apply pw_below_drewN | apply below_drew1 | refine below_set ?_ GE665.out) | exact HB.out)) hb); clear BK665; clear HB; have BK665 := n0_; have HB := n1_; clear n0_ n1_; (try clear hb); (try clear hb2); (try clear hk); (try clear hi)))
    go_ret
    exact ⟨by first | rfl | (simp [errW_none, errW_some] <;> rfl) | (simp [*, errW_none, errW_some] <;> rfl), by repeat (first | (with_reducible first | exact HB.out | apply below_alloc | apply pw_below_drewN | apply below_drew1 | refine below_set ?_ GE665.out) | exact HB.out)⟩

end Go.Proofs.Ytmeopnlkddflaaa.F
end
section
namespace Go.Proofs.Ytmeopnlkddflaaa.Bits
open Go.Proofs.Ytmeopnlkddflaaa.Mt (sdiff bit_sdiff)
open Go.RowKit Go.Proofs.YtmeopnlkddflaaaW.PrintWords Go.Proofs.YtmeopnlkddflaaaW.PrintLast Go.Proofs.YtmeopnlkddflaaaW.PrintMore

theorem wrap_in {n : Int} (h0 : -9223372036854775808 ≤ n) (h1 : n < 9223372036854775808) : wrap64 n = n := by unfold wrap64; omega
theorem wrapi_in {n : Int} (h0 : -9223372036854775808 ≤ n) (h1 : n < 9223372036854775808) : IntKind.i64.wrap n = n := by rw [IntKind.wrap_i64]; omega
theorem wrapu_in {n : Int} (h0 : 0 ≤ n) (h1 : n < 18446744073709551616) : IntKind.u64.wrap n = n := by
  simp [IntKind.wrap, IntKind.bits, IntKind.signed]; omega
theorem ofInt_nat (a : Nat) (ha : a < 2 ^ 63) : (BitVec.ofInt 64 (a : Int)).toNat = a := by
  simp; omega
theorem bits_and (a b : Nat) (ha : a < 2 ^ 63) (hb : b < 2 ^ 63) : Go.bits .and .i64 (a : Int) (b : Int) = ((a &&& b : Nat) : Int) := by
  have hab : a &&& b < 2 ^ 63 := Nat.and_lt_two_pow _ hb
  show IntKind.i64.wrap (((BitVec.ofInt 64 (a : Int) &&& BitVec.ofInt 64 (b : Int)).toNat : Nat) : Int) = _
  rw [BitVec.toNat_and, ofInt_nat a ha, ofInt_nat b hb]
  exact wrapi_in (by omega) (by omega)
theorem bits_or (a b : Nat) (ha : a < 2 ^ 63) (hb : b < 2 ^ 63) : Go.bits .or .i64 (a : Int) (b : Int) = ((a ||| b : Nat) : Int) := by
  have hab : a ||| b < 2 ^ 63 := Nat.or_lt_two_pow ha hb
  show IntKind.i64.wrap (((BitVec.ofInt 64 (a : Int) ||| BitVec.ofInt 64 (b : Int)).toNat : Nat) : Int) = _
  rw [BitVec.toNat_or, ofInt_nat a ha, ofInt_nat b hb]
  exact wrapi_in (by omega) (by omega)
theorem sdiff_lt {a b n : Nat} (ha : a < 2 ^ n) : sdiff a b < 2 ^ n := Nat.xor_lt_two_pow ha (Nat.lt_of_le_of_lt Nat.and_le_left ha)
theorem bits_andNot (a b : Nat) (ha : a < 2 ^ 63) (hb : b < 2 ^ 63) : Go.bits .andNot .i64 (a : Int) (b : Int) = ((sdiff a b : Nat) : Int) := by
  have hab : sdiff a b < 2 ^ 63 := sdiff_lt ha
  show IntKind.i64.wrap (((BitVec.ofInt 64 (a : Int) &&& ~~~ BitVec.ofInt 64 (b : Int)).toNat : Nat) : Int) = _
  have : (BitVec.ofInt 64 (a : Int) &&& ~~~ BitVec.ofInt 64 (b : Int)).toNat = sdiff a b := by
    apply Nat.eq_of_testBit_eq
    intro i
    rw [bit_sdiff]
    rw [BitVec.toNat_and, Nat.testBit_and, ofInt_nat a ha]
    by_cases hi : i < 64
    · rw [BitVec.testBit_toNat, BitVec.getLsbD_not, ← BitVec.testBit_toNat, ofInt_nat b hb]; simp [hi]
    · have : a.testBit i = false := Nat.testBit_lt_two_pow (Nat.lt_of_lt_of_le ha (Nat.pow_le_pow_right (by decide) (by omega)))
      simp [this]
  rw [this]
  exact wrapi_in (by omega) (by omega)
theorem shl_one (e : Nat) (he : e < 63) : shl .i64 1 (e : Int) = ((2 ^ e : Nat) : Int) := by
  have h : 2 ^ e < 2 ^ 63 := Nat.pow_lt_pow_right (by decide) he
  unfold shl
  rw [Nat.min_eq_left (by simp [IntKind.bits]; omega), Int.one_mul, Int.toNat_natCast]
  rw [show (2 : Int) ^ e = ((2 ^ e : Nat) : Int) by simp]
  generalize 2 ^ e = x at h ⊢
  exact wrapi_in (by omega) (by omega)
theorem shr_nat (a e : Nat) (he : e ≤ 64) : shr .i64 (a : Int) (e : Int) = ((a >>> e : Nat) : Int) := by
  unfold shr
  rw [Nat.min_eq_left (by simp [IntKind.bits]; omega), Int.toNat_natCast, Nat.shiftRight_eq_div_pow]
  simp
theorem has_bit (a e : Nat) (ha : a < 2 ^ 63) (he : e ≤ 64) : (Go.bits .and .i64 (shr .i64 (a : Int) (e : Int)) 1 == 1) = a.testBit e := by
  have h1 : a >>> e < 2 ^ 63 := Nat.lt_of_le_of_lt (by rw [Nat.shiftRight_eq_div_pow]; exact Nat.div_le_self _ _) ha
  rw [shr_nat a e he, show (1 : Int) = ((1 : Nat) : Int) from rfl, bits_and _ _ h1 (by decide)]
  simp only [Nat.testBit, Nat.and_comm 1]
  rcases Nat.mod_two_eq_zero_or_one (a >>> e) with h | h <;> simp [Nat.and_one_is_mod, h] <;> rfl

end Go.Proofs.Ytmeopnlkddflaaa.Bits
end
section
namespace Go.Proofs.Ytmeopnlkddflaaa.L
open Go.RowKit Go.Proofs.YtmeopnlkddflaaaW.PrintWords Go.Proofs.YtmeopnlkddflaaaW.PrintLast Go.Proofs.YtmeopnlkddflaaaW.PrintMore
open Go.Proofs.Ytmeopnlkddflaaa.Bits

theorem Ev.succ {α : Type} {g : Nat → Option α} {r : α} (h : Ev (fun k => g (k + 1)) r) : Ev g r := Ev.step (fun _ => rfl) h
theorem Ev.some {α : Type} {r s : α} (h : r = s) : Ev (fun _ => Option.some r) s := h ▸ Ev.now r
theorem wrap_succ {i : Nat} (h : i < 9223372036854775807) : wrap64 ((i : Int) + 1) = ((i + 1 : Nat) : Int) := wrap_in (by omega) (by omega)

/-- A loop that asks of all places, and says no at the first that fails. -/
theorem loop_all (L : Nat → Int → Option Bool) (n : Nat) (p : Nat → Bool) (hend : ∀ k, L (k + 1) (n : Int) = some true)
    (hstep : ∀ i, i < n → ∀ k, L (k + 1) (i : Int) = if p i = true then L k ((i + 1 : Nat) : Int) else some false) :
    ∀ d i, i + d = n → Ev (fun k => L k (i : Int)) ((List.range' i d).all p)
  | 0, i, hd => by
    obtain rfl : i = n := by omega
    refine Ev.succ ?_
    simp only [hend]; exact Ev.now _
  | d + 1, i, hd => by
    refine Ev.succ ?_
    rw [List.range'_succ, List.all_cons]
    simp only [hstep i (by omega)]
    cases hp : p i
    · simp only [Bool.false_eq_true, if_false, Bool.false_and]; exact Ev.now _
    · simp only [if_true, Bool.true_and]; exact loop_all L n p hend hstep d (i + 1) (by omega)
theorem loop_all0 (L : Nat → Int → Option Bool) (n : Nat) (p : Nat → Bool) (hend : ∀ k, L (k + 1) (n : Int) = some true)
    (hstep : ∀ i, i < n → ∀ k, L (k + 1) (i : Int) = if p i = true then L k ((i + 1 : Nat) : Int) else some false) :
    Ev (fun k => L k 0) ((List.range n).all p) := by
  rw [List.range_eq_range']; exact loop_all L n p hend hstep n 0 (by omega)
/-- A loop that gathers: at each place the state takes a step; an invariant goes along. -/
theorem loop_fold {σ ρ : Type} (L : Nat → σ → Int → Option ρ) (n : Nat) (step : σ → Nat → σ) (inv : Nat → σ → Prop) (fin : σ → ρ)
    (hend : ∀ s, inv n s → Ev (fun k => L (k + 1) s (n : Int)) (fin s))
    (hstep : ∀ i s, i < n → inv i s → inv (i + 1) (step s i) ∧ ∀ r, Ev (fun k => L k (step s i) ((i + 1 : Nat) : Int)) r → Ev (fun k => L (k + 1) s (i : Int)) r) :
    ∀ d i s, i + d = n → inv i s → Ev (fun k => L k s (i : Int)) (fin ((List.range' i d).foldl step s))
  | 0, i, s, hd, hi => by
    obtain rfl : i = n := by omega
    exact Ev.succ (hend s hi)
  | d + 1, i, s, hd, hi => by
    refine Ev.succ ?_
    obtain ⟨h1, h2⟩ := hstep i s (by omega) hi
    exact h2 _ (loop_fold L n step inv fin hend hstep d (i + 1) (step s i) (by omega) h1)
theorem loop_fold0 {σ ρ : Type} (L : Nat → σ → Int → Option ρ) (n : Nat) (step : σ → Nat → σ) (inv : Nat → σ → Prop) (fin : σ → ρ)
    (hend : ∀ s, inv n s → Ev (fun k => L (k + 1) s (n : Int)) (fin s))
    (hstep : ∀ i s, i < n → inv i s → inv (i + 1) (step s i) ∧ ∀ r, Ev (fun k => L k (step s i) ((i + 1 : Nat) : Int)) r → Ev (fun k => L (k + 1) s (i : Int)) r) (s : σ) (h : inv 0 s) :
    Ev (fun k => L k s 0) (fin ((List.range n).foldl step s)) := by
  rw [List.range_eq_range']; exact loop_fold L n step inv fin hend hstep n 0 s (by omega) h

/-- A loop that gathers, and what stands behind it. -/
theorem loop_reach {σ ρ : Type} (L : Nat → σ → Int → Option ρ) (n : Nat) (step : σ → Nat → σ) (inv : Nat → σ → Prop)
    (hstep : ∀ i s, i < n → inv i s → inv (i + 1) (step s i) ∧ ∀ r, Ev (fun k => L k (step s i) ((i + 1 : Nat) : Int)) r → Ev (fun k => L (k + 1) s (i : Int)) r) (s : σ) (h : inv 0 s) :
    inv n ((List.range n).foldl step s) ∧ ∀ r, Ev (fun k => L k ((List.range n).foldl step s) (n : Int)) r → Ev (fun k => L k s 0) r := by
  have key : ∀ d i s, i + d = n → inv i s → inv n ((List.range' i d).foldl step s) ∧ ∀ r, Ev (fun k => L k ((List.range' i d).foldl step s) (n : Int)) r → Ev (fun k => L k s (i : Int)) r := by
    intro d
    induction d with
    | zero => intro i s hd hi; obtain rfl : i = n := by omega
              exact ⟨hi, fun r h => h⟩
    | succ d ih =>
      intro i s hd hi
      obtain ⟨h1, h2⟩ := hstep i s (by omega) hi
      obtain ⟨h3, h4⟩ := ih (i + 1) (step s i) (by omega) h1
      rw [List.range'_succ, List.foldl_cons]
      exact ⟨h3, fun r h => Ev.succ (h2 r (h4 r h))⟩
  rw [List.range_eq_range']
  exact key n 0 s (by omega) h
/-- A loop from its end back: what a place makes of the answer of what follows. -/
theorem loop_back {ρ : Type} (L : Nat → Int → Option ρ) (n : Nat) (f : Nat → ρ → ρ) (last : ρ) (hend : Ev (fun k => L (k + 1) (n : Int)) last)
    (hstep : ∀ i, i < n → ∀ r, Ev (fun k => L k ((i + 1 : Nat) : Int)) r → Ev (fun k => L (k + 1) (i : Int)) (f i r)) : Ev (fun k => L k 0) ((List.range n).foldr f last) := by
  have key : ∀ d i, i + d = n → Ev (fun k => L k (i : Int)) ((List.range' i d).foldr f last) := by
    intro d
    induction d with
    | zero => intro i hd; obtain rfl : i = n := by omega
              exact Ev.succ hend
    | succ d ih =>
      intro i hd
      rw [List.range'_succ, List.foldr_cons]
      exact Ev.succ (hstep i (by omega) _ (ih (i + 1) (by omega)))
  rw [List.range_eq_range']
  exact key n 0 (by omega)
theorem foldr_all {α : Type} (p : α → Bool) (r : Bool) : ∀ l : List α, l.foldr (fun i r => p i && r) r = (l.all p && r)
  | [] => by simp
  | a :: l => by rw [List.foldr_cons, List.all_cons, foldr_all p r l, Bool.and_assoc]
theorem foldr_any {α : Type} (p : α → Bool) (r : Bool) : ∀ l : List α, l.foldr (fun i r => p i || r) r = (l.any p || r)
  | [] => by simp
  | a :: l => by rw [List.foldr_cons, List.any_cons, foldr_any p r l, Bool.or_assoc]
theorem rd_getD (l : List Int) (j : Nat) : rd l (j : Int) = l.getD j 0 := by simp [rd]
theorem range_all_get {α : Type} (l : List α) (d : α) (p : α → Bool) : (List.range l.length).all (fun i => p (l.getD i d)) = l.all p := by
  rw [Bool.eq_iff_iff, List.all_eq_true, List.all_eq_true]
  constructor
  · intro h x hx
    obtain ⟨i, hi, rfl⟩ := List.getElem_of_mem hx
    have := h i (by simpa using hi)
    simpa [List.getElem?_eq_getElem hi] using this
  · intro h i hi
    have hi : i < l.length := by simpa using hi
    have := h l[i] (List.getElem_mem hi)
    simpa [List.getElem?_eq_getElem hi] using this
end Go.Proofs.Ytmeopnlkddflaaa.L
end
section
namespace Go.Proofs.Ytmeopnlkddflaaa.L
open Go.RowKit Go.Proofs.Ytmeopnlkddflaaa.F Go.Proofs.YtmeopnlkddflaaaW.PrintWords Go.Proofs.YtmeopnlkddflaaaW.PrintLast Go.Proofs.YtmeopnlkddflaaaW.PrintMore
open Go.Proofs.Ytmeopnlkddflaaa.Bits
open Go.Proofs.Ytmeopnlkddflaaa.Mt (sdiff bit_sdiff elems mem_elems)

def ints (l : List Nat) : List Int := l.map fun x : Nat => (x : Int)
theorem rd_ints (l : List Nat) (j : Nat) (h : j < l.length) : rd (ints l) (j : Int) = ((l[j]'h : Nat) : Int) := by
  simp [rd, ints, List.getElem?_eq_getElem h]
theorem ints_length (l : List Nat) : (ints l).length = l.length := by simp [ints]
theorem elems_length (s : Nat) : (elems s).length ≤ 8 := by
  have := List.length_filter_le s.testBit (List.range 8); simpa [elems] using this
/-- A number that is a set of eight elements. -/
def isAny (s : Int) : Bool := decide (0 ≤ s ∧ s < 256)

theorem isAny_i (s : Int) : impl_isAny.f s = some (isAny s) := by
  unfold impl_isAny.f isAny
  split <;> simp <;> omega

theorem l1In (x a b : Int) : spec_l1In.f x a b = some (decide (a ≤ x ∧ x ≤ b)) := by
  unfold spec_l1In.f
  split <;> simp <;> omega

theorem IsSet_s (n s : Int) : spec_IsSet.f n s = some (decide (0 ≤ n ∧ n ≤ 8 ∧ 0 ≤ s ∧ s < 2 ^ n.toNat)) := by
  unfold spec_IsSet.f
  simp only [l1In, Option.bind_some, decide_eq_true_eq]
  split
  · rename_i h
    obtain ⟨m, rfl⟩ := Int.eq_ofNat_of_zero_le h.1
    have hm : m ≤ 8 := by omega
    have hp : (2 : Nat) ^ m ≤ 2 ^ 8 := Nat.pow_le_pow_right (by decide) hm
    rw [wrapu_in (by omega) (by omega), shl_one m (by omega), if_pos (by omega)]
    rw [wrap_in (by generalize 2 ^ m = x at hp ⊢; omega) (by generalize 2 ^ m = x at hp ⊢; omega)]
    simp only [Int.toNat_natCast, Option.some.injEq, decide_eq_decide]
    have : (2 : Int) ^ m = ((2 ^ m : Nat) : Int) := by simp
    rw [this]
    generalize 2 ^ m = x at hp ⊢
    omega
  · simp; omega

theorem isSize_i (n : Int) : impl_isSize.f n = some (decide (0 ≤ n ∧ n ≤ 8)) := by
  unfold impl_isSize.f
  split <;> simp <;> omega
theorem IsSet_i (n s : Int) : impl_IsSet.f n s = some (decide (0 ≤ n ∧ n ≤ 8 ∧ 0 ≤ s ∧ s < 2 ^ n.toNat)) := by
  unfold impl_IsSet.f
  rw [isSize_i]
  simp only [Option.bind_some, decide_eq_true_eq]
  by_cases h : 0 ≤ n ∧ n ≤ 8
  · rw [if_pos h]
    by_cases hs : s ≥ 0
    · rw [if_pos hs, if_pos h.1]
      obtain ⟨m, rfl⟩ := Int.eq_ofNat_of_zero_le h.1
      rw [shl_one m (by omega)]
      simp only [Int.toNat_natCast, Option.some.injEq, decide_eq_decide]
      have : (2 : Int) ^ m = ((2 ^ m : Nat) : Int) := by simp
      rw [this]
      generalize 2 ^ m = x
      omega
    · rw [if_neg hs]; simp; omega
  · rw [if_neg h]; simp; omega
theorem HasElement_i (s e : Int) : impl_HasElement.f s e = some (isAny s && decide (0 ≤ e ∧ e < 8) && s.toNat.testBit e.toNat) := by
  unfold impl_HasElement.f
  rw [isAny_i]
  simp only [Option.bind_some]
  cases hs : isAny s
  · simp
  · rw [if_pos rfl]
    have hs' : 0 ≤ s ∧ s < 256 := by simpa [isAny] using hs
    by_cases h0 : e ≥ 0
    · rw [if_pos h0]
      by_cases h8 : e < 8
      · obtain ⟨a, rfl⟩ := Int.eq_ofNat_of_zero_le hs'.1
        obtain ⟨b, rfl⟩ := Int.eq_ofNat_of_zero_le h0
        rw [if_pos h8, if_pos h0, has_bit _ _ (by omega) (by omega)]
        simp; omega
      · rw [if_neg h8]; simp; omega
    · rw [if_neg h0]; simp; omega

/-- The elements of a number: none where it is no set. -/
def elemsI (s : Int) : List Nat := if isAny s then elems s.toNat else []

theorem elems_loop (s : Int) (L : Nat → List Int → Int → Option (List Int))
    (hL : ∀ k (acc : List Int) (i : Nat), L (k + 1) acc i = if (i : Int) < 8 then (if (isAny s && decide (0 ≤ (i : Int) ∧ (i : Int) < 8) && s.toNat.testBit (i : Int).toNat) = true then (if acc.length < 17592186044416 then L k (acc ++ [(i : Int)]) (wrap64 ((i : Int) + 1)) else none) else L k acc (wrap64 ((i : Int) + 1))) else some acc) :
    ∀ (d i : Nat) (acc : List Int), i + d = 8 → acc.length ≤ i → Ev (fun k => L k acc i) (acc ++ ints ((List.range' i d).filter fun e => isAny s && s.toNat.testBit e))
  | 0, i, acc, hd, _ => by
    obtain rfl : i = 8 := by omega
    refine Ev.succ ?_
    simp only [hL, show ¬ (((8 : Nat) : Int) < 8) by decide, if_false]
    simpa [ints] using Ev.now acc
  | d + 1, i, acc, hd, ha => by
    refine Ev.succ ?_
    have h8 : (i : Int) < 8 := by omega
    have hw : wrap64 ((i : Int) + 1) = ((i + 1 : Nat) : Int) := wrap_in (by omega) (by omega)
    simp only [hL, h8, hw, if_true, Int.toNat_natCast, Int.natCast_nonneg, decide_true, Bool.and_true, and_self]
    rw [List.range'_succ]
    cases hb : (isAny s && s.toNat.testBit i)
    · simp only [hb, List.filter_cons, Bool.false_eq_true, if_false]
      exact elems_loop s L hL d (i + 1) acc (by omega) (by omega)
    · simp only [hb, List.filter_cons, if_true, show acc.length < 17592186044416 by omega]
      have := elems_loop s L hL d (i + 1) (acc ++ [(i : Int)]) (by omega) (by simp; omega)
      simpa [ints] using this

theorem elemsI_eq (s : Int) : (List.range' 0 8).filter (fun e => isAny s && s.toNat.testBit e) = elemsI s := by
  unfold elemsI elems
  rw [List.range_eq_range']
  cases isAny s <;> simp

theorem ElementsOf_i (s : Int) : Ev (fun k => impl_ElementsOf.f k s) (ints (elemsI s)) := by
  have := elems_loop s (fun k acc i => impl_ElementsOf.l0 k s acc i) (fun k acc i => by simp only [impl_ElementsOf.l0, HasElement_i, Option.bind_some]) 8 0 [] rfl (by simp)
  rw [elemsI_eq] at this
  simpa [impl_ElementsOf.f] using this

end Go.Proofs.Ytmeopnlkddflaaa.L
end
section
namespace Go.Proofs.Ytmeopnlkddflaaa.Mt
theorem bit_or (a b i : Nat) : (a ||| b).testBit i = (a.testBit i || b.testBit i) := Nat.testBit_or a b i
theorem bit_and (a b i : Nat) : (a &&& b).testBit i = (a.testBit i && b.testBit i) := Nat.testBit_and a b i
theorem bit_pow (e i : Nat) : (2 ^ e).testBit i = decide (e = i) := by
  rw [Nat.testBit_two_pow]
theorem bit_zero (i : Nat) : (0 : Nat).testBit i = false := Nat.zero_testBit i
theorem ext {a b : Nat} (h : ∀ i, a.testBit i = b.testBit i) : a = b := Nat.eq_of_testBit_eq h
/-- s with e; s without e. -/
def ins (s e : Nat) : Nat := s ||| 2 ^ e
def del (s e : Nat) : Nat := sdiff s (2 ^ e)
theorem bit_ins (s e i : Nat) : (ins s e).testBit i = (s.testBit i || decide (e = i)) := by rw [ins, bit_or, bit_pow]
theorem bit_del (s e i : Nat) : (del s e).testBit i = (s.testBit i && !decide (e = i)) := by rw [del, bit_sdiff, bit_pow]
def sub (a b : Nat) : Prop := ∀ i, a.testBit i = true → b.testBit i = true
theorem sub_iff_and {a b : Nat} : sub a b ↔ a &&& b = a := by
  constructor
  · intro h; apply ext; intro i; rw [bit_and]; have := h i; cases ha : a.testBit i <;> simp_all
  · intro h i hi; have := congrArg (fun x => Nat.testBit x i) h; simp only [bit_and, hi, Bool.true_and] at this; exact this
theorem sub_iff_sdiff {a b : Nat} : sub a b ↔ sdiff a b = 0 := by
  constructor
  · intro h; apply ext; intro i; rw [bit_sdiff, bit_zero]; have := h i; cases ha : a.testBit i <;> simp_all
  · intro h i hi
    have := congrArg (fun x => Nat.testBit x i) h
    simp only [bit_sdiff, hi, bit_zero, Bool.true_and, Bool.not_eq_false'] at this; exact this
theorem del_sub (s e : Nat) : sub (del s e) s := fun i hi => by rw [bit_del] at hi; simp at hi; exact hi.1
theorem ins_eq {s e : Nat} (h : s.testBit e = true) : ins s e = s := ext fun i => by
  rw [bit_ins]; by_cases he : e = i
  · subst he; simp [h]
  · simp [he]
theorem not_sub {a b : Nat} (h : ¬ sub a b) : ∃ i, a.testBit i = true ∧ b.testBit i = false := by
  apply Classical.byContradiction
  intro hn; apply h; intro i hi
  cases hb : b.testBit i
  · exact absurd ⟨i, hi, hb⟩ hn
  · rfl
theorem bit_lt {s n i : Nat} (h : s < 2 ^ n) (hi : s.testBit i = true) : i < n := by
  rcases Nat.lt_or_ge i n with h' | h'
  · exact h'
  · rw [Nat.testBit_lt_two_pow (Nat.lt_of_lt_of_le h (Nat.pow_le_pow_right (by decide) h'))] at hi; cases hi
theorem le_of_sub {a b : Nat} (h : sub a b) : a ≤ b := by rw [sub_iff_and] at h; rw [← h]; exact Nat.and_le_right
/-- All elements below n. -/
def full (n : Nat) : Nat := 2 ^ n - 1
def cnt (s : Nat) : Nat := (List.range 8).countP s.testBit
theorem countP_or_and (p q : Nat → Bool) : ∀ l : List Nat, l.countP (fun i => p i || q i) + l.countP (fun i => p i && q i) = l.countP p + l.countP q
  | [] => rfl
  | a :: l => by
    have := countP_or_and p q l
    simp only [List.countP_cons]
    cases p a <;> cases q a <;> simp <;> omega
theorem cnt_or_and (a b : Nat) : cnt (a ||| b) + cnt (a &&& b) = cnt a + cnt b := by
  have := countP_or_and a.testBit b.testBit (List.range 8)
  simp only [cnt]
  rw [show Nat.testBit (a ||| b) = fun i => a.testBit i || b.testBit i from funext (bit_or a b), show Nat.testBit (a &&& b) = fun i => a.testBit i && b.testBit i from funext (bit_and a b)]
  exact this
theorem cnt_mono {a b : Nat} (h : sub a b) : cnt a ≤ cnt b := List.countP_mono_left fun i _ hi => h i hi
theorem cnt_zero : cnt 0 = 0 := by decide
theorem cnt_le (s : Nat) : cnt s ≤ 8 := by have := List.countP_le_length (p := s.testBit) (l := List.range 8); simpa [cnt] using this
theorem cnt_disjoint {a b : Nat} (h : a &&& b = 0) : cnt (a ||| b) = cnt a + cnt b := by have := cnt_or_and a b; rw [h, cnt_zero] at this; omega
theorem cnt_pow {e : Nat} (h : e < 8) : cnt (2 ^ e) = 1 := by
  have : ∀ e, e < 8 → cnt (2 ^ e) = 1 := by decide
  exact this e h
theorem cnt_ins {s e : Nat} (he : e < 8) (h : s.testBit e = false) : cnt (ins s e) = cnt s + 1 := by
  have : s &&& 2 ^ e = 0 := ext fun i => by
    rw [bit_and, bit_pow, bit_zero]; by_cases hi : e = i
    · subst hi; simp [h]
    · simp [hi]
  rw [ins, cnt_disjoint this, cnt_pow he]
theorem cnt_del {s e : Nat} (he : e < 8) (h : s.testBit e = true) : cnt (del s e) + 1 = cnt s := by
  have k : ins (del s e) e = s := ext fun i => by
    rw [bit_ins, bit_del]; by_cases hi : e = i
    · subst hi; simp [h]
    · simp [hi]
  have := cnt_ins (s := del s e) he (by simp [bit_del])
  rw [k] at this; omega
/-- The bases of a matroid of n elements: by exchange. -/
structure Mat (n : Nat) (B : List Nat) : Prop where
  size : n ≤ 8
  lt : ∀ b ∈ B, b < 2 ^ n
  ne : B ≠ []
  ex : ∀ a ∈ B, ∀ b ∈ B, ∀ e, a.testBit e = true → b.testBit e = false → ∃ f, b.testBit f = true ∧ a.testBit f = false ∧ ins (del a e) f ∈ B
section
variable {n : Nat} {B : List Nat}
theorem lt256 {s n : Nat} (hn : n ≤ 8) (h : s < 2 ^ n) : s < 256 := Nat.lt_of_lt_of_le h (Nat.pow_le_pow_right (n := 2) (by decide) hn)
theorem Mat.lt8 (M : Mat n B) {b : Nat} (h : b ∈ B) : b < 256 := lt256 M.size (M.lt b h)
theorem Mat.bit8 (M : Mat n B) {b e : Nat} (h : b ∈ B) (he : b.testBit e = true) : e < 8 := bit_lt (n := 8) (M.lt8 h) he
theorem cnt_swap {a e f : Nat} (ha : a < 256) (hf8 : f < 8) (he : a.testBit e = true) (hf : a.testBit f = false) : cnt (ins (del a e) f) = cnt a := by
  have h8 : e < 8 := bit_lt (n := 8) ha he
  have h1 := cnt_del h8 he
  have h2 := cnt_ins (s := del a e) hf8 (by rw [bit_del, hf]; rfl)
  omega
theorem Mat.le (M : Mat n B) : ∀ k a b, a ∈ B → b ∈ B → cnt (sdiff a b) = k → cnt a ≤ cnt b := by
  intro k
  induction k using Nat.strongRecOn with
  | _ k ih =>
    intro a b ha hb hk
    by_cases hs : sub a b
    · exact cnt_mono hs
    · obtain ⟨e, he, heb⟩ := not_sub hs
      obtain ⟨f, hfb, hfa, hin⟩ := M.ex a ha b hb e he heb
      have e8 := M.bit8 ha he
      have f8 := M.bit8 hb hfb
      have hsw := cnt_swap (M.lt8 ha) f8 he hfa
      have hd : sdiff (ins (del a e) f) b = del (sdiff a b) e := ext fun i => by
        simp only [bit_sdiff, bit_ins, bit_del]
        by_cases hi : f = i
        · subst hi; simp [hfb]
        · simp only [hi, decide_false, Bool.or_false]; cases a.testBit i <;> cases b.testBit i <;> simp
      have hc := cnt_del (s := sdiff a b) e8 (by rw [bit_sdiff, he, heb]; rfl)
      have := ih (cnt (del (sdiff a b) e)) (by omega) (ins (del a e) f) b hin hb (by rw [hd])
      omega
/-- The rank of s: the most that a base has of it. -/
def rk (B : List Nat) (s : Nat) : Nat := B.foldl (fun m b => max m (cnt (s &&& b))) 0
/-- A set within a base. -/
def ind (B : List Nat) (s : Nat) : Prop := ∃ b ∈ B, sub s b
/-- What is within a base grows to a base by elements of any other. -/
theorem Mat.grow (M : Mat n B) {I c : Nat} (hI : ind B I) (hc : c ∈ B) : ∃ b ∈ B, sub I b ∧ sub b (I ||| c) := by
  obtain ⟨b0, hb0, hs0⟩ := hI
  have key : ∀ k b, b ∈ B → sub I b → cnt (sdiff b (I ||| c)) = k → ∃ b ∈ B, sub I b ∧ sub b (I ||| c) := by
    intro k
    induction k using Nat.strongRecOn with
    | _ k ih =>
      intro b hb hs hk
      by_cases hh : sub b (I ||| c)
      · exact ⟨b, hb, hs, hh⟩
      · obtain ⟨e, he, hn⟩ := not_sub hh
        rw [bit_or] at hn
        have hn' := Bool.or_eq_false_iff.1 hn
        obtain ⟨f, hfc, hfb, hin⟩ := M.ex b hb c hc e he hn'.2
        have hd : sdiff (ins (del b e) f) (I ||| c) = del (sdiff b (I ||| c)) e := ext fun i => by
          simp only [bit_sdiff, bit_ins, bit_del, bit_or]
          by_cases hi : f = i
          · subst hi; simp [hfc]
          · simp only [hi, decide_false, Bool.or_false]; cases b.testBit i <;> cases I.testBit i <;> cases c.testBit i <;> simp
        have h1 := cnt_del (s := sdiff b (I ||| c)) (M.bit8 hb he) (by rw [bit_sdiff, he, bit_or, hn]; rfl)
        refine ih _ (by rw [hd]; omega) _ hin (fun i hi => ?_) rfl
        rw [bit_ins, bit_del, hs i hi]
        have : e ≠ i := fun h => by subst h; rw [hi] at hn'; exact absurd hn'.1 (by simp)
        simp [this]
  exact key _ b0 hb0 hs0 rfl
end
end Go.Proofs.Ytmeopnlkddflaaa.Mt
end
section
namespace Go.Proofs.Ytmeopnlkddflaaa.L
open Go.RowKit Go.Proofs.Ytmeopnlkddflaaa.F Go.Proofs.YtmeopnlkddflaaaW.PrintWords Go.Proofs.YtmeopnlkddflaaaW.PrintLast Go.Proofs.YtmeopnlkddflaaaW.PrintMore
open Go.Proofs.Ytmeopnlkddflaaa.Bits
open Go.Proofs.Ytmeopnlkddflaaa.Mt (sdiff bit_sdiff elems mem_elems cnt cnt_le full)
set_option linter.unusedSimpArgs false
set_option linter.unusedVariables false
theorem any_range (l : List Int) (x : Int) : ((List.range l.length).any fun i => decide (l.getD i 0 = x)) = decide (x ∈ l) := by
  rw [Bool.eq_iff_iff]
  simp only [List.any_eq_true, List.mem_range, decide_eq_true_eq]
  constructor
  · rintro ⟨i, hi, h⟩
    rw [← h, List.getD_eq_getElem?_getD, List.getElem?_eq_getElem hi]; exact List.getElem_mem hi
  · intro h
    obtain ⟨i, hi, he⟩ := List.getElem_of_mem h
    exact ⟨i, hi, by rw [List.getD_eq_getElem?_getD, List.getElem?_eq_getElem hi]; exact he⟩
theorem HasSet_s (l : List Int) (x : Int) (hl : l.length ≤ 17592186044416) : Ev (fun k => spec_HasSet.f k l x) (decide (x ∈ l)) := by
  unfold spec_HasSet.f
  have h := loop_back (fun k i => spec_HasSet.l0 k l x i) l.length (fun i r => decide (l.getD i 0 = x) || r) false
    (by simp only [spec_HasSet.l0, show ¬ ((l.length : Int) < (l.length : Int)) by omega, if_false]; exact Ev.now _) fun i hi r hr => by
      simp only [spec_HasSet.l0, show ((i : Int) < (l.length : Int)) by omega, show (0 : Int) ≤ (i : Int) by omega, if_true, rd_getD, wrap_succ (show i < 9223372036854775807 by omega)]
      by_cases h : l.getD i 0 = x
      · simp only [h, if_true, decide_true, Bool.true_or]; exact Ev.now _
      · simp only [h, if_false, decide_false, Bool.false_or]; exact hr
  rw [foldr_any, Bool.or_false, any_range] at h
  exact h
theorem HasSet_i (l : List Int) (x : Int) (hl : l.length ≤ 17592186044416) : Ev (fun k => impl_HasSet.f k l x) (decide (x ∈ l)) := by
  unfold impl_HasSet.f slices_Contains_int_int.f slices_Index_int_int.f
  have key : ∃ r : Int, Ev (fun k => slices_Index_int_int.l0 k l x (l.length : Int) 0) r ∧ decide (r ≥ 0) = decide (x ∈ l) := by
    refine ⟨(List.range l.length).foldr (fun i r => if x = l.getD i 0 then (i : Int) else r) (-1), ?_, ?_⟩
    · refine loop_back (fun k i => slices_Index_int_int.l0 k l x (l.length : Int) i) l.length _ (-1) ?_ fun i hi r hr => ?_
      · simp only [slices_Index_int_int.l0, show ¬ ((l.length : Int) < (l.length : Int)) by omega, if_false]; exact Ev.now _
      · simp only [slices_Index_int_int.l0, show ((i : Int) < (l.length : Int)) by omega, show (0 : Int) ≤ (i : Int) by omega, if_true, rd_getD, wrap_succ (show i < 9223372036854775807 by omega)]
        by_cases h : x = l.getD i 0
        · rw [if_pos h]; simp only [if_pos h]; exact Ev.now _
        · rw [if_neg h]; simp only [if_neg h]; exact hr
    · have hh : ∀ L : List Nat, (0 ≤ L.foldr (fun i r => if x = l.getD i 0 then (i : Int) else r) (-1)) ↔ (L.any fun i => decide (l.getD i 0 = x)) = true := by
        intro L
        induction L with
        | nil => simp
        | cons i t ih =>
          simp only [List.foldr_cons, List.any_cons, Bool.or_eq_true, decide_eq_true_eq]
          by_cases h : x = l.getD i 0
          · simp only [if_pos h]; exact ⟨fun _ => .inl h.symm, fun _ => by omega⟩
          · simp only [if_neg h]; rw [ih]; exact ⟨.inr, fun hh => hh.elim (fun e => absurd e.symm h) id⟩
      rw [← any_range, Bool.eq_iff_iff, decide_eq_true_eq]
      exact hh _
  obtain ⟨r, hr, e⟩ := key
  refine Ev.bind (Ev.bind hr (Ev.now _)) ?_
  rw [← e]; exact Ev.now _
def isSetB (n s : Int) : Bool := decide (0 ≤ n ∧ n ≤ 8 ∧ 0 ≤ s ∧ s < 2 ^ n.toNat)
def isFamily (n : Int) (l : List Int) : Bool := ((List.range l.length).all fun i => isSetB n (l.getD i 0) && (decide (i = 0) || decide (l.getD (i - 1) 0 < l.getD i 0))) && decide (0 ≤ n ∧ n ≤ 8)
theorem wrap_pred {i : Nat} (h : i < 9223372036854775807) (h0 : 0 < i) : wrap64 ((i : Int) - 1) = ((i - 1 : Nat) : Int) := by rw [wrap_in (by omega) (by omega)]; omega
theorem IsFamily_s (n : Int) (l : List Int) (hl : l.length ≤ 17592186044416) : Ev (fun k => spec_IsFamily.f k n l) (isFamily n l) := by
  unfold spec_IsFamily.f
  have h := loop_back (fun k i => spec_IsFamily.l0 k n l i) l.length (fun i r => (isSetB n (l.getD i 0) && (decide (i = 0) || decide (l.getD (i - 1) 0 < l.getD i 0))) && r) (decide (0 ≤ n ∧ n ≤ 8))
    (by simp only [spec_IsFamily.l0, show ¬ ((l.length : Int) < (l.length : Int)) by omega, if_false, l1In, Option.bind_some]; exact Ev.now _) fun i hi r hr => by
      simp only [spec_IsFamily.l0, show ((i : Int) < (l.length : Int)) by omega, show (0 : Int) ≤ (i : Int) by omega, if_true, rd_getD, IsSet_s, Option.bind_some, decide_eq_true_eq, wrap_succ (show i < 9223372036854775807 by omega)]
      unfold isSetB
      by_cases hs : 0 ≤ n ∧ n ≤ 8 ∧ 0 ≤ l.getD i 0 ∧ l.getD i 0 < 2 ^ n.toNat
      · simp only [hs, and_self, if_true, decide_true, Bool.true_and]
        by_cases h0 : i = 0
        · subst h0
          simp only [show ¬ (((0 : Nat) : Int) > 0) by omega, if_false, decide_true, Bool.true_or, Bool.true_and]; exact hr
        · simp only [show ((i : Int) > 0) by omega, if_true, wrap_pred (show i < 9223372036854775807 by omega) (Nat.pos_of_ne_zero h0), show (0 : Int) ≤ ((i - 1 : Nat) : Int) by omega, show ((i - 1 : Nat) : Int) < (l.length : Int) by omega, rd_getD, h0, decide_false, Bool.false_or]
          by_cases hc : l.getD (i - 1) 0 < l.getD i 0
          · simp only [show ¬ (l.getD (i - 1) 0 ≥ l.getD i 0) by omega, if_false, hc, decide_true, Bool.true_and]; exact hr
          · simp only [show (l.getD (i - 1) 0 ≥ l.getD i 0) by omega, if_true, hc, decide_false, Bool.false_and]; exact Ev.now _
      · simp only [if_neg hs, decide_eq_false hs, Bool.false_and]; exact Ev.now _
  rw [foldr_all] at h
  exact h
theorem IsFamily_i (n : Int) (l : List Int) (hl : l.length ≤ 17592186044416) : Ev (fun k => impl_IsFamily.f k n l) (isFamily n l) := by
  unfold impl_IsFamily.f
  have h := loop_back (fun k i => impl_IsFamily.l0 k n l l (l.length : Int) i) l.length (fun i r => (isSetB n (l.getD i 0) && (decide (i = 0) || decide (l.getD (i - 1) 0 < l.getD i 0))) && r) (decide (0 ≤ n ∧ n ≤ 8))
    (by simp only [impl_IsFamily.l0, show ¬ ((l.length : Int) < (l.length : Int)) by omega, if_false, isSize_i, Option.bind_some]; exact Ev.now _) fun i hi r hr => by
      simp only [impl_IsFamily.l0, show ((i : Int) < (l.length : Int)) by omega, show (0 : Int) ≤ (i : Int) by omega, if_true, rd_getD, IsSet_i, Option.bind_some, decide_eq_true_eq, wrap_succ (show i < 9223372036854775807 by omega)]
      unfold isSetB
      by_cases hs : 0 ≤ n ∧ n ≤ 8 ∧ 0 ≤ l.getD i 0 ∧ l.getD i 0 < 2 ^ n.toNat
      · simp only [hs, and_self, if_true, decide_true, Bool.true_and]
        by_cases h0 : i = 0
        · subst h0
          simp only [show ¬ (((0 : Nat) : Int) > 0) by omega, if_false, decide_true, Bool.true_or, Bool.true_and]; exact hr
        · simp only [show ((i : Int) > 0) by omega, if_true, wrap_pred (show i < 9223372036854775807 by omega) (Nat.pos_of_ne_zero h0), show (0 : Int) ≤ ((i - 1 : Nat) : Int) by omega, show ((i - 1 : Nat) : Int) < (l.length : Int) by omega, rd_getD, h0, decide_false, Bool.false_or]
          by_cases hc : l.getD (i - 1) 0 < l.getD i 0
          · simp only [show ¬ (l.getD i 0 ≤ l.getD (i - 1) 0) by omega, if_false, hc, decide_true, Bool.true_and]; exact hr
          · simp only [show (l.getD i 0 ≤ l.getD (i - 1) 0) by omega, if_true, hc, decide_false, Bool.false_and]; exact Ev.now _
      · simp only [if_neg hs, decide_eq_false hs, Bool.false_and]; exact Ev.now _
  rw [foldr_all] at h
  exact h
/-- What a family holds, in natural numbers. -/
theorem fam_parts {n : Int} {l : List Int} (h : isFamily n l = true) : ∃ (N : Nat) (B : List Nat), n = N ∧ N ≤ 8 ∧ l = ints B ∧ (∀ b ∈ B, b < 2 ^ N) ∧ B.Pairwise (· < ·) := by
  unfold isFamily at h
  simp only [Bool.and_eq_true, decide_eq_true_eq, List.all_eq_true, List.mem_range, Bool.or_eq_true] at h
  obtain ⟨h1, h2, h3⟩ := h
  obtain ⟨N, rfl⟩ := Int.eq_ofNat_of_zero_le h2
  have hset : ∀ i (hi : i < l.length), 0 ≤ l[i] ∧ l[i] < 2 ^ N := fun i hi => by
    have := (h1 i hi).1
    simp only [isSetB, decide_eq_true_eq, Int.toNat_natCast, List.getD_eq_getElem?_getD, List.getElem?_eq_getElem hi, Option.getD_some] at this
    exact ⟨this.2.2.1, this.2.2.2⟩
  have hstep : ∀ i (hi : i + 1 < l.length), l[i] < l[i + 1] := fun i hi => by
    have := (h1 (i + 1) hi).2
    simp only [Nat.succ_ne_zero, false_or, Nat.add_sub_cancel, List.getD_eq_getElem?_getD, List.getElem?_eq_getElem hi, List.getElem?_eq_getElem (show i < l.length by omega), Option.getD_some] at this
    exact this
  have hlt : ∀ j (hj : j < l.length) i (hi : i < j), l[i] < l[j] := by
    intro j
    induction j with
    | zero => intro _ i hi; omega
    | succ j ih =>
      intro hj i hi
      by_cases e : i = j
      · subst e; exact hstep i hj
      · exact Int.lt_trans (ih (by omega) i (by omega)) (hstep j hj)
  refine ⟨N, l.map Int.toNat, rfl, by omega, ?_, ?_, ?_⟩
  · apply List.ext_getElem (by simp [ints])
    intro i h1 h2
    have := (hset i h1).1
    simp [ints]; omega
  · intro b hb
    obtain ⟨x, hx, rfl⟩ := List.mem_map.1 hb
    obtain ⟨i, hi, rfl⟩ := List.getElem_of_mem hx
    have := hset i hi
    have e : (2 : Int) ^ N = ((2 ^ N : Nat) : Int) := by simp
    rw [e] at this
    generalize 2 ^ N = y at this ⊢
    omega
  · rw [List.pairwise_iff_getElem]
    intro i j hi hj hij
    simp only [List.length_map] at hi hj
    have := hlt j hj i hij
    have := (hset i hi).1
    simp only [List.getElem_map]; omega
def cntI (s : Int) : Nat := if isAny s then cnt s.toNat else 0
set_option maxRecDepth 100000 in
theorem ones_i : ∀ s : Nat, s < 256 → bits_OnesCount64.f (s : Int) = some (cnt s : Int) := by decide +kernel
theorem CountOf_i (s : Int) : impl_CountOf.f s = some (cntI s : Int) := by
  unfold impl_CountOf.f cntI
  rw [isAny_i]
  simp only [Option.bind_some]
  cases h : isAny s
  · simp
  · have hs : 0 ≤ s ∧ s < 256 := by simpa [isAny] using h
    obtain ⟨a, rfl⟩ := Int.eq_ofNat_of_zero_le hs.1
    rw [wrapu_in (by omega) (by omega)]
    simp only [if_true, bits_OnesCount.f, Option.bind_some, Int.toNat_natCast]
    rw [ones_i a (by omega)]; rfl
end Go.Proofs.Ytmeopnlkddflaaa.L
end
section
namespace Go.Proofs.Ytmeopnlkddflaaa.L
open Go.RowKit Go.Proofs.Ytmeopnlkddflaaa.F Go.Proofs.YtmeopnlkddflaaaW.PrintWords Go.Proofs.YtmeopnlkddflaaaW.PrintLast Go.Proofs.YtmeopnlkddflaaaW.PrintMore
open Go.Proofs.Ytmeopnlkddflaaa.Bits
open Go.Proofs.Ytmeopnlkddflaaa.Mt (sdiff bit_sdiff elems mem_elems cnt full ins del Mat lt256)
set_option linter.unusedSimpArgs false
set_option linter.unusedVariables false
theorem del_add : ∀ a : Nat, a < 256 → ∀ e : Nat, e < 8 → a.testBit e = true → del a e + 2 ^ e = a := by decide +kernel
theorem ins_add : ∀ a : Nat, a < 256 → ∀ f : Nat, f < 8 → a.testBit f = false → ins a f = a + 2 ^ f := by decide +kernel
theorem del_lt {a e : Nat} (h : a < 256) : del a e < 256 := Nat.lt_of_le_of_lt (Mt.le_of_sub (Mt.del_sub a e)) h
theorem mem_ints {B : List Nat} {x : Nat} : ((x : Int) ∈ ints B) ↔ x ∈ B := by
  simp only [ints, List.mem_map]
  constructor
  · rintro ⟨y, hy, e⟩
    have : y = x := by omega
    rw [← this]; exact hy
  · intro h; exact ⟨x, h, rfl⟩
/-- Some element of b can be put for e in a. -/
def exch (B : List Nat) (a b e : Nat) : Bool := (elems (sdiff b a)).any fun f => decide (ins (del a e) f ∈ B)
theorem exch_range {B : List Nat} {N a b e : Nat} (hN : N ≤ 8) (hb : b < 2 ^ N) : exch B a b e = (List.range N).any fun f => b.testBit f && (!a.testBit f && decide (ins (del a e) f ∈ B)) := by
  unfold exch
  rw [Bool.eq_iff_iff]
  simp only [List.any_eq_true, mem_elems, List.mem_range, bit_sdiff, Bool.and_eq_true, Bool.not_eq_true', decide_eq_true_eq]
  constructor
  · rintro ⟨f, ⟨_, h1, h2⟩, h3⟩; exact ⟨f, Mt.bit_lt hb h1, h1, h2, h3⟩
  · rintro ⟨f, h0, h1, h2, h3⟩; exact ⟨f, ⟨by omega, h1, h2⟩, h3⟩
def matB (B : List Nat) : Bool := B.all fun a => B.all fun b => (elems (sdiff a b)).all fun e => exch B a b e
def isMatroid (n : Int) (l : List Int) : Bool := isFamily n l && decide (0 < l.length) && matB (l.map Int.toNat)
theorem toNat_ints (B : List Nat) : (ints B).map Int.toNat = B := by
  simp only [ints, List.map_map]
  induction B with
  | nil => rfl
  | cons x t ih => simp only [List.map_cons, ih]; rfl
/-- What a matroid holds. -/
theorem mat_parts {n : Int} {l : List Int} (h : isMatroid n l = true) : ∃ (N : Nat) (B : List Nat), n = N ∧ l = ints B ∧ B.Pairwise (· < ·) ∧ Mat N B := by
  unfold isMatroid at h
  simp only [Bool.and_eq_true, decide_eq_true_eq] at h
  obtain ⟨⟨h1, h2⟩, h3⟩ := h
  obtain ⟨N, B, rfl, hN, rfl, hB, hp⟩ := fam_parts h1
  rw [toNat_ints] at h3
  refine ⟨N, B, rfl, rfl, hp, ⟨hN, hB, ?_, ?_⟩⟩
  · intro e; rw [e] at h2; simp [ints] at h2
  · intro a ha b hb e he hbe
    have h4 := List.all_eq_true.1 (List.all_eq_true.1 (List.all_eq_true.1 h3 a ha) b hb) e (mem_elems.2 ⟨Mt.bit_lt (n := 8) (lt256 hN (hB a ha)) he, by rw [bit_sdiff, he, hbe]; rfl⟩)
    simp only [exch, List.any_eq_true, mem_elems, bit_sdiff, Bool.and_eq_true, Bool.not_eq_true', decide_eq_true_eq] at h4
    obtain ⟨f, ⟨_, h5, h6⟩, h7⟩ := h4
    exact ⟨f, h5, h6, h7⟩
theorem has_s (a e : Nat) (ha : a < 256) (he : e ≤ 64) : spec_l2Has.f (a : Int) (e : Int) = some (a.testBit e) := by
  unfold spec_l2Has.f; rw [wrapu_in (by omega) (by omega), if_pos (by omega), has_bit _ _ (by omega) (by omega)]
section
variable {N : Nat} {B : List Nat}
theorem exch_s (hN : N ≤ 8) (hB : ∀ b ∈ B, b < 2 ^ N) (hl : B.length ≤ 17592186044416) {a b e : Nat} (ha : a < 2 ^ N) (hb : b < 2 ^ N) (he : a.testBit e = true) :
    Ev (fun k => spec_l4Exchange.f k (N : Int) (ints B) a b e) (exch B a b e) := by
  have ha8 := lt256 hN ha
  have hb8 := lt256 hN hb
  have he8 : e < 8 := Mt.bit_lt (n := 8) ha8 he
  rw [exch_range hN hb]
  unfold spec_l4Exchange.f
  have h := loop_back (fun k f => spec_l4Exchange.l0 k a b e f N (ints B)) N (fun f r => (b.testBit f && (!a.testBit f && decide (ins (del a e) f ∈ B))) || r) false
    (by simp only [spec_l4Exchange.l0, show ¬ ((N : Int) < (N : Int)) by omega, if_false]; exact Ev.now _) fun f hf r hr => by
      simp only [spec_l4Exchange.l0, show ((f : Int) < (N : Int)) by omega, if_true, has_s b f hb8 (by omega), has_s a f ha8 (by omega), Option.bind_some, wrap_succ (show f < 9223372036854775807 by omega)]
      cases h1 : b.testBit f
      · simp only [Bool.false_eq_true, if_false, Bool.false_and, Bool.false_or]; exact hr
      · cases h2 : a.testBit f
        · have hd := del_lt (e := e) ha8
          have e1 := del_add a ha8 e he8 he
          have hdf : (del a e).testBit f = false := by rw [Mt.bit_del, h2]; rfl
          have e2 := ins_add (del a e) hd f (by omega) hdf
          have ew : wrap64 ((wrap64 ((a : Int) - (shl .i64 1 (IntKind.u64.wrap (e : Int))))) + (shl .i64 1 (IntKind.u64.wrap (f : Int)))) = ((ins (del a e) f : Nat) : Int) := by
            have p1 : 2 ^ e ≤ 2 ^ 8 := Nat.pow_le_pow_right (by decide) (by omega)
            have p2 : 2 ^ f ≤ 2 ^ 8 := Nat.pow_le_pow_right (by decide) (by omega)
            rw [wrapu_in (by omega) (by omega), wrapu_in (n := (f : Int)) (by omega) (by omega), shl_one e (by omega), shl_one f (by omega), e2]
            generalize 2 ^ e = x at e1 p1 ⊢
            generalize 2 ^ f = y at p2 ⊢
            rw [wrap_in (n := (a : Int) - (x : Int)) (by omega) (by omega), wrap_in (by omega) (by omega)]
            omega
          simp only [Bool.false_eq_true, if_false, Bool.not_false, Bool.true_and]
          simp only [show (0 : Int) ≤ IntKind.u64.wrap (e : Int) by rw [wrapu_in (by omega) (by omega)]; omega, show (0 : Int) ≤ IntKind.u64.wrap (f : Int) by rw [wrapu_in (by omega) (by omega)]; omega, if_true, ew]
          refine Ev.bind (HasSet_s (ints B) _ (by rw [ints_length]; exact hl)) ?_
          simp only [mem_ints]
          by_cases hm : ins (del a e) f ∈ B
          · simp only [hm, decide_true, if_true, Bool.true_or]; exact Ev.now _
          · simp only [hm, decide_false, Bool.false_eq_true, if_false, Bool.false_or]; exact hr
        · simp only [if_true, Bool.not_true, Bool.false_and, Bool.and_false, Bool.false_or]; exact hr
  rw [foldr_any, Bool.or_false] at h
  exact h
/-- The failing element of two bases, as1 the reference looks for it: over all places. -/
def ffS (N : Nat) (B : List Nat) : Int × Int × Int × Bool :=
  (List.range B.length).foldr (fun i r => (List.range B.length).foldr (fun j r => (List.range N).foldr (fun e r =>
    if (B.getD i 0).testBit e && (!(B.getD j 0).testBit e && !exch B (B.getD i 0) (B.getD j 0) e) then (((B.getD i 0 : Nat) : Int), ((B.getD j 0 : Nat) : Int), (e : Int), true) else r) r) r) (0, 0, 0, false)
/-- The same, as1 the program looks for it: over the elements of the difference. -/
def ffI (B : List Nat) : Int × Int × Int × Bool :=
  (List.range B.length).foldr (fun i r => (List.range B.length).foldr (fun j r => (List.range (elems (sdiff (B.getD i 0) (B.getD j 0))).length).foldr (fun m r =>
    if !exch B (B.getD i 0) (B.getD j 0) ((elems (sdiff (B.getD i 0) (B.getD j 0))).getD m 0) then (((B.getD i 0 : Nat) : Int), ((B.getD j 0 : Nat) : Int), (((elems (sdiff (B.getD i 0) (B.getD j 0))).getD m 0 : Nat) : Int), true) else r) r) r) (0, 0, 0, false)
theorem getD_get (i : Nat) (hi : i < B.length) : B.getD i 0 = B[i] := by simp [List.getElem?_eq_getElem hi]
theorem rd_get' (i : Nat) (hi : i < B.length) : rd (ints B) (i : Int) = ((B.getD i 0 : Nat) : Int) := by rw [rd_ints B i hi, getD_get i hi]
theorem getD_lt (hB : ∀ b ∈ B, b < 2 ^ N) (i : Nat) (hi : i < B.length) : B.getD i 0 < 2 ^ N := by rw [getD_get i hi]; exact hB _ (List.getElem_mem hi)
theorem failure_s (hN : N ≤ 8) (hB : ∀ b ∈ B, b < 2 ^ N) (hl : B.length ≤ 17592186044416) : Ev (fun k => spec_FirstFailure.l0 k (N : Int) (ints B) 0) (ffS N B) := by
  refine loop_back (fun k i => spec_FirstFailure.l0 k (N : Int) (ints B) i) B.length _ (0, 0, 0, false) ?_ fun i hi r hr => ?_
  · simp only [spec_FirstFailure.l0, ints_length, show ¬ ((B.length : Int) < (B.length : Int)) by omega, if_false]; exact Ev.now _
  simp only [spec_FirstFailure.l0, ints_length, show ((i : Int) < (B.length : Int)) by omega, show (0 : Int) ≤ (i : Int) by omega, if_true]
  refine loop_back (fun k j => spec_FirstFailure.l1 k (N : Int) (ints B) i j) B.length _ r ?_ fun j hj r hr => ?_
  · simp only [spec_FirstFailure.l1, ints_length, show ¬ ((B.length : Int) < (B.length : Int)) by omega, if_false, wrap_succ (show i < 9223372036854775807 by omega)]; exact hr
  simp only [spec_FirstFailure.l1, ints_length, show ((j : Int) < (B.length : Int)) by omega, show (0 : Int) ≤ (j : Int) by omega, if_true]
  have ha := getD_lt hB i hi
  have hb := getD_lt hB j hj
  have ea := rd_get' i hi
  have eb := rd_get' j hj
  refine loop_back (fun k e => spec_FirstFailure.l2 k (N : Int) (ints B) i j e) N _ r ?_ fun e he r hr => ?_
  · simp only [spec_FirstFailure.l2, show ¬ ((N : Int) < (N : Int)) by omega, if_false, wrap_succ (show j < 9223372036854775807 by omega)]; exact hr
  generalize B.getD i 0 = a at ha ea ⊢
  generalize B.getD j 0 = b at hb eb ⊢
  simp only [spec_FirstFailure.l2, show ((e : Int) < (N : Int)) by omega, if_true, ea, eb, has_s a e (lt256 hN ha) (by omega), has_s b e (lt256 hN hb) (by omega), Option.bind_some, wrap_succ (show e < 9223372036854775807 by omega)]
  cases h1 : a.testBit e
  · simp only [Bool.false_eq_true, if_false, Bool.false_and]; exact hr
  · cases h2 : b.testBit e
    · simp only [if_true, Bool.false_eq_true, if_false, Bool.not_false, Bool.true_and]
      refine Ev.bind (exch_s hN hB hl ha hb h1) ?_
      cases h3 : exch B a b e
      · simp only [Bool.false_eq_true, if_false, Bool.not_false, if_true]; exact Ev.now _
      · simp only [if_true, Bool.not_true, Bool.false_eq_true, if_false]; exact hr
    · simp only [if_true, Bool.not_true, Bool.false_and, Bool.and_false, Bool.false_eq_true, if_false]; exact hr
theorem anyO_ev (Q : Nat → Int → Option Bool) (p : Nat → Bool) : ∀ l : List Nat, (∀ x ∈ l, Ev (fun k => Q k (x : Int)) (p x)) → Ev (fun k => anyO (Q k) (ints l)) (l.any p)
  | [], _ => by simp only [ints, List.map_nil, anyO, List.any_nil]; exact Ev.now _
  | x :: t, h => by
    simp only [ints, List.map_cons, anyO, List.any_cons]
    refine Ev.bind (h x (List.mem_cons_self ..)) ?_
    cases hp : p x
    · simp only [Bool.false_eq_true, if_false, Bool.false_or]; exact anyO_ev Q p t fun y hy => h y (List.mem_cons_of_mem _ hy)
    · simp only [if_true, Bool.true_or]; exact Ev.now _
theorem elemsI_nat {s : Nat} (h : s < 256) : elemsI (s : Int) = elems s := by unfold elemsI; rw [if_pos (by simp [isAny]; omega)]; rfl
theorem sdiff256 {a b : Nat} (h : a < 256) : sdiff a b < 256 := sdiff_lt (n := 8) h
theorem failure_i (hN : N ≤ 8) (hB : ∀ b ∈ B, b < 2 ^ N) (hl : B.length ≤ 17592186044416) : Ev (fun k => impl_FirstFailure.l0 k (ints B) 0) (ffI B) := by
  refine loop_back (fun k i => impl_FirstFailure.l0 k (ints B) i) B.length _ (0, 0, 0, false) ?_ fun i hi r hr => ?_
  · simp only [impl_FirstFailure.l0, ints_length, show ¬ ((B.length : Int) < (B.length : Int)) by omega, if_false]; exact Ev.now _
  simp only [impl_FirstFailure.l0, ints_length, show ((i : Int) < (B.length : Int)) by omega, show (0 : Int) ≤ (i : Int) by omega, if_true]
  have ha := getD_lt hB i hi
  have ea := rd_get' i hi
  refine loop_back (fun k j => impl_FirstFailure.l1 k (ints B) i j) B.length _ r ?_ fun j hj r hr => ?_
  · simp only [impl_FirstFailure.l1, ints_length, show ¬ ((B.length : Int) < (B.length : Int)) by omega, if_false, wrap_succ (show i < 9223372036854775807 by omega)]; exact hr
  have hb := getD_lt hB j hj
  have eb := rd_get' j hj
  generalize B.getD i 0 = a at ha ea ⊢
  generalize B.getD j 0 = b at hb eb ⊢
  have ha8 := lt256 hN ha
  have hb8 := lt256 hN hb
  simp only [impl_FirstFailure.l1, ints_length, show ((j : Int) < (B.length : Int)) by omega, show (0 : Int) ≤ (j : Int) by omega, if_true, ea, eb, bits_andNot a b (by omega) (by omega)]
  refine Ev.bind (ElementsOf_i _) ?_
  rw [elemsI_nat (sdiff256 ha8)]
  have hes : ∀ e ∈ elems (sdiff a b), e < 8 ∧ a.testBit e = true := fun e he => by
    have := mem_elems.1 he
    rw [bit_sdiff] at this; simp at this; exact ⟨this.1, this.2.1⟩
  have hlen := elems_length (sdiff a b)
  generalize elems (sdiff a b) = es at hes hlen ⊢
  refine loop_back (fun k m => impl_FirstFailure.l2 k (ints B) i j (ints es) m) es.length _ r ?_ fun m hm r hr => ?_
  · simp only [impl_FirstFailure.l2, ints_length, show ¬ ((es.length : Int) < (es.length : Int)) by omega, if_false, wrap_succ (show j < 9223372036854775807 by omega)]; exact hr
  have he := hes es[m] (List.getElem_mem hm)
  have ee := rd_ints es m hm
  rw [show es.getD m 0 = es[m] by simp [List.getElem?_eq_getElem hm]]
  generalize es[m] = e at he ee ⊢
  simp only [impl_FirstFailure.l2, ints_length, show ((m : Int) < (es.length : Int)) by omega, show (0 : Int) ≤ (m : Int) by omega, if_true, ea, eb, ee, bits_andNot b a (by omega) (by omega), wrap_succ (show m < 9223372036854775807 by omega)]
  refine Ev.bind (ElementsOf_i _) ?_
  rw [elemsI_nat (sdiff256 hb8)]
  have hlf := elems_length (sdiff b a)
  simp only [ints_length, show (elems (sdiff b a)).length ≤ 17592186044416 by omega, if_true]
  refine Ev.bind (anyO_ev (fun k => impl_FirstFailure.q k (ints B) a e) (fun f => decide (ins (del a e) f ∈ B)) (elems (sdiff b a)) fun f hf => ?_) ?_
  · have hf8 := (mem_elems.1 hf).1
    have p1 : 2 ^ e ≤ 2 ^ 8 := Nat.pow_le_pow_right (by decide) (by omega)
    have p2 : 2 ^ f ≤ 2 ^ 8 := Nat.pow_le_pow_right (by decide) (by omega)
    have hd := del_lt (e := e) ha8
    simp only [impl_FirstFailure.q, show (0 : Int) ≤ (e : Int) by omega, show (0 : Int) ≤ (f : Int) by omega, if_true, shl_one e (by omega), shl_one f (by omega)]
    rw [bits_andNot a (2 ^ e) (by omega) (by omega), bits_or (sdiff a (2 ^ e)) (2 ^ f) (by have : sdiff a (2 ^ e) < 256 := hd; omega) (by omega)]
    have hh := HasSet_i (ints B) ((sdiff a (2 ^ e) ||| 2 ^ f : Nat) : Int) (by rw [ints_length]; exact hl)
    rw [show decide (((sdiff a (2 ^ e) ||| 2 ^ f : Nat) : Int) ∈ ints B) = decide (ins (del a e) f ∈ B) by rw [decide_eq_decide]; exact mem_ints] at hh
    exact hh
  show Ev _ (if (!exch B a b e) = true then _ else r)
  rw [show ((elems (sdiff b a)).any fun f => decide (ins (del a e) f ∈ B)) = exch B a b e from rfl]
  cases h3 : exch B a b e
  · simp only [Bool.false_eq_true, if_false, Bool.not_false, if_true]; exact Ev.now _
  · simp only [if_true, Bool.not_true, Bool.false_eq_true, if_false]; exact hr
theorem foldr_c {α ρ : Type} (c : ρ → Bool) (F : α → ρ → ρ) (P : α → Bool) (h : ∀ x r, c (F x r) = (P x || c r)) (r : ρ) : ∀ l : List α, c (l.foldr F r) = (l.any P || c r)
  | [] => by simp
  | x :: t => by rw [List.foldr_cons, h, foldr_c c F P h r t, List.any_cons, Bool.or_assoc]
theorem foldr_c' {α ρ : Type} (c : ρ → Bool) (p : α → Bool) (g : α → ρ) (hg : ∀ x, c (g x) = true) (r : ρ) (l : List α) : c (l.foldr (fun x r => if p x = true then g x else r) r) = (l.any p || c r) :=
  foldr_c c _ p (fun x r => by cases h : p x <;> simp [h, hg]) r l
theorem ffS_bad (hN : N ≤ 8) (hB : ∀ b ∈ B, b < 2 ^ N) : (ffS N B).2.2.2 = !matB B := by
  unfold ffS
  rw [foldr_c (fun r : Int × Int × Int × Bool => r.2.2.2) _ (fun i => (List.range B.length).any fun j => (List.range N).any fun e => (B.getD i 0).testBit e && (!(B.getD j 0).testBit e && !exch B (B.getD i 0) (B.getD j 0) e)) (fun i r => by
    rw [foldr_c (fun r : Int × Int × Int × Bool => r.2.2.2) _ (fun j => (List.range N).any fun e => (B.getD i 0).testBit e && (!(B.getD j 0).testBit e && !exch B (B.getD i 0) (B.getD j 0) e)) (fun j r => by
      exact foldr_c' (fun r : Int × Int × Int × Bool => r.2.2.2) _ _ (fun _ => rfl) r _)])]
  rw [Bool.or_false, Bool.eq_iff_iff]
  simp only [List.any_eq_true, List.mem_range, Bool.and_eq_true, Bool.not_eq_true']
  constructor
  · rintro ⟨i, hi, j, hj, e, he, h1, h2, h3⟩
    rw [getD_get i hi] at h1 h3
    rw [getD_get j hj] at h2 h3
    rw [Bool.eq_false_iff]
    intro hm
    have := List.all_eq_true.1 (List.all_eq_true.1 (List.all_eq_true.1 hm B[i] (List.getElem_mem hi)) B[j] (List.getElem_mem hj)) e (mem_elems.2 ⟨by omega, by rw [bit_sdiff, h1, h2]; rfl⟩)
    rw [h3] at this; cases this
  · intro hm
    obtain ⟨a, ha, h⟩ := List.all_eq_false.1 hm
    obtain ⟨b, hb, h⟩ := List.all_eq_false.1 (Bool.eq_false_iff.2 h)
    obtain ⟨e, he, h⟩ := List.all_eq_false.1 (Bool.eq_false_iff.2 h)
    obtain ⟨i, hi, rfl⟩ := List.getElem_of_mem ha
    obtain ⟨j, hj, rfl⟩ := List.getElem_of_mem hb
    have hd := (mem_elems.1 he).2
    rw [bit_sdiff] at hd
    simp only [Bool.and_eq_true, Bool.not_eq_true'] at hd
    refine ⟨i, hi, j, hj, e, Mt.bit_lt (hB _ ha) hd.1, ?_⟩
    rw [getD_get i hi, getD_get j hj]
    exact ⟨hd.1, hd.2, Bool.eq_false_iff.2 h⟩
theorem ffI_bad : (ffI B).2.2.2 = !matB B := by
  unfold ffI
  rw [foldr_c (fun r : Int × Int × Int × Bool => r.2.2.2) _ (fun i => (List.range B.length).any fun j => (List.range (elems (sdiff (B.getD i 0) (B.getD j 0))).length).any fun m => !exch B (B.getD i 0) (B.getD j 0) ((elems (sdiff (B.getD i 0) (B.getD j 0))).getD m 0)) (fun i r => by
    rw [foldr_c (fun r : Int × Int × Int × Bool => r.2.2.2) _ (fun j => (List.range (elems (sdiff (B.getD i 0) (B.getD j 0))).length).any fun m => !exch B (B.getD i 0) (B.getD j 0) ((elems (sdiff (B.getD i 0) (B.getD j 0))).getD m 0)) (fun j r => by
      exact foldr_c' (fun r : Int × Int × Int × Bool => r.2.2.2) _ _ (fun _ => rfl) r _)])]
  rw [Bool.or_false, Bool.eq_iff_iff]
  simp only [List.any_eq_true, List.mem_range, Bool.not_eq_true']
  constructor
  · rintro ⟨i, hi, j, hj, m, hm, h3⟩
    rw [getD_get i hi, getD_get j hj] at h3 hm
    rw [Bool.eq_false_iff]
    intro hmm
    rw [show (elems (sdiff B[i] B[j])).getD m 0 = (elems (sdiff B[i] B[j]))[m] by simp [List.getElem?_eq_getElem hm]] at h3
    have := List.all_eq_true.1 (List.all_eq_true.1 (List.all_eq_true.1 hmm B[i] (List.getElem_mem hi)) B[j] (List.getElem_mem hj)) _ (List.getElem_mem hm)
    rw [h3] at this; cases this
  · intro hm
    obtain ⟨a, ha, h⟩ := List.all_eq_false.1 hm
    obtain ⟨b, hb, h⟩ := List.all_eq_false.1 (Bool.eq_false_iff.2 h)
    obtain ⟨e, he, h⟩ := List.all_eq_false.1 (Bool.eq_false_iff.2 h)
    obtain ⟨i, hi, rfl⟩ := List.getElem_of_mem ha
    obtain ⟨j, hj, rfl⟩ := List.getElem_of_mem hb
    obtain ⟨m, hm, rfl⟩ := List.getElem_of_mem he
    refine ⟨i, hi, j, hj, m, ?_, ?_⟩
    · rw [getD_get i hi, getD_get j hj]; exact hm
    · rw [getD_get i hi, getD_get j hj, show (elems (sdiff B[i] B[j])).getD m 0 = (elems (sdiff B[i] B[j]))[m] by simp [List.getElem?_eq_getElem hm]]
      exact Bool.eq_false_iff.2 h
end
theorem IsMatroid_s (n : Int) (l : List Int) (hl : l.length ≤ 17592186044416) : Ev (fun k => spec_IsMatroid.f k n l) (isMatroid n l) := by
  unfold spec_IsMatroid.f spec_FirstFailure.f isMatroid
  have hf := IsFamily_s n l hl
  cases h : isFamily n l
  · rw [h] at hf
    refine Ev.bind (Ev.bind hf (by simp only [Bool.false_eq_true, if_false]; exact Ev.now _)) (Ev.bind hf ?_)
    simp only [Bool.false_eq_true, if_false, Bool.false_and]; exact Ev.now _
  · rw [h] at hf
    obtain ⟨N, B, rfl, hN, rfl, hB, hp⟩ := fam_parts h
    rw [ints_length] at hl
    refine Ev.bind (Ev.bind hf (by simp only [if_true]; exact failure_s hN hB hl)) (Ev.bind hf ?_)
    simp only [if_true, ffS_bad hN hB, Bool.not_not, toNat_ints, Bool.true_and, ints_length]
    by_cases h0 : 0 < B.length
    · simp only [show ((B.length : Int) > 0) by omega, if_true, h0, decide_true, Bool.true_and]; exact Ev.now _
    · simp only [show ¬ ((B.length : Int) > 0) by omega, if_false, h0, decide_false, Bool.false_and]; exact Ev.now _
theorem IsMatroid_i (n : Int) (l : List Int) (hl : l.length ≤ 17592186044416) : Ev (fun k => impl_IsMatroid.f k n l) (isMatroid n l) := by
  unfold impl_IsMatroid.f impl_FirstFailure.f isMatroid
  have hf := IsFamily_i n l hl
  cases h : isFamily n l
  · rw [h] at hf
    refine Ev.bind (Ev.bind hf (by simp only [Bool.false_eq_true, if_false]; exact Ev.now _)) (Ev.bind hf ?_)
    simp only [Bool.false_eq_true, if_false, Bool.false_and]; exact Ev.now _
  · rw [h] at hf
    obtain ⟨N, B, rfl, hN, rfl, hB, hp⟩ := fam_parts h
    rw [ints_length] at hl
    refine Ev.bind (Ev.bind hf (by simp only [if_true]; exact failure_i hN hB hl)) (Ev.bind hf ?_)
    simp only [if_true, ffI_bad, Bool.not_not, toNat_ints, Bool.true_and, ints_length]
    by_cases h0 : 0 < B.length
    · simp only [show ((B.length : Int) > 0) by omega, if_true, h0, decide_true, Bool.true_and]; exact Ev.now _
    · simp only [show ¬ ((B.length : Int) > 0) by omega, if_false, h0, decide_false, Bool.false_and]; exact Ev.now _
end Go.Proofs.Ytmeopnlkddflaaa.L
end
section
namespace Go.Proofs.Ytmeopnlkddflaaa.L
open Go.RowKit Go.Proofs.Ytmeopnlkddflaaa.F Go.Proofs.YtmeopnlkddflaaaW.PrintWords Go.Proofs.YtmeopnlkddflaaaW.PrintLast Go.Proofs.YtmeopnlkddflaaaW.PrintMore
open Go.Proofs.Ytmeopnlkddflaaa.Bits
open Go.Proofs.Ytmeopnlkddflaaa.Mt (sdiff bit_sdiff elems mem_elems cnt cnt_le full ins del Mat lt256 rk)
set_option linter.unusedSimpArgs false
set_option linter.unusedVariables false
/-- The count, halving: a small number's bits. -/
theorem half_bits : ∀ s : Nat, s < 256 → cnt s = s % 2 + cnt (s / 2) := by decide +kernel
theorem count_loop : ∀ (d s : Nat) (x : Int), s < 2 ^ d → d ≤ 8 → 0 ≤ x → x + d ≤ 100 → Ev (fun k => spec_CountOf.l0 k (s : Int) x) (x + cnt s)
  | 0, s, x, hs, _, h0, h1 => by
    have : s = 0 := by simp at hs; exact hs
    subst this
    refine Ev.succ ?_
    simp only [spec_CountOf.l0, show ¬ (((0 : Nat) : Int) > 0) by omega, if_false]
    exact Ev.some (by rw [Mt.cnt_zero]; omega)
  | d + 1, s, x, hs, hd, h0, h1 => by
    refine Ev.succ ?_
    by_cases hz : s = 0
    · subst hz
      simp only [spec_CountOf.l0, show ¬ (((0 : Nat) : Int) > 0) by omega, if_false]
      exact Ev.some (by rw [Mt.cnt_zero]; omega)
    · have h256 : s < 256 := Nat.lt_of_lt_of_le hs (Nat.pow_le_pow_right (n := 2) (by decide) hd)
      have hb := half_bits s h256
      have e1 : Go.bits .and .i64 (s : Int) 1 = ((s % 2 : Nat) : Int) := by
        have := bits_and s 1 (by omega) (by omega)
        rw [show ((1 : Nat) : Int) = 1 from rfl] at this
        rw [this, Nat.and_one_is_mod]
      have e2 : (s : Int) / 2 = ((s / 2 : Nat) : Int) := by omega
      have hlt : s / 2 < 2 ^ d := by rw [Nat.pow_succ] at hs; omega
      simp only [spec_CountOf.l0, show ((s : Int) > 0) by omega, if_true, e1, e2]
      rw [wrap_in (by omega) (by omega)]
      have ih := count_loop d (s / 2) (x + ((s % 2 : Nat) : Int)) hlt (by omega) (by omega) (by omega)
      rw [show x + (cnt s : Int) = x + ((s % 2 : Nat) : Int) + (cnt (s / 2) : Int) by rw [hb]; omega]
      exact ih
theorem CountOf_s (s : Int) : Ev (fun k => spec_CountOf.f k s) (cntI s : Int) := by
  unfold spec_CountOf.f cntI isAny
  simp only [IsSet_s, Option.bind_some, decide_eq_true_eq]
  by_cases h : 0 ≤ s ∧ s < 256
  · obtain ⟨a, rfl⟩ := Int.eq_ofNat_of_zero_le h.1
    simp only [show (0 : Int) ≤ 8 ∧ (8 : Int) ≤ 8 ∧ (0 : Int) ≤ (a : Int) ∧ (a : Int) < 2 ^ (8 : Int).toNat from ⟨by omega, by omega, by omega, by simpa using h.2⟩, and_self, if_true, h, decide_true, Int.toNat_natCast]
    have := count_loop 8 a 0 (by omega) (by omega) (by omega) (by omega)
    simpa using this
  · have h' : ¬ (0 ≤ (8 : Int) ∧ (8 : Int) ≤ 8 ∧ 0 ≤ s ∧ s < 2 ^ (8 : Int).toNat) := fun hh => h ⟨hh.2.2.1, by simpa using hh.2.2.2⟩
    first
      | (simp only [if_neg h', if_neg h, decide_eq_false h, Bool.false_eq_true, if_false]; exact Ev.now _)
      | (simp only [h, decide_false, Bool.false_eq_true, if_false]; exact Ev.now _)
theorem cntI_nat {s : Nat} (h : s < 256) : cntI (s : Int) = cnt s := by unfold cntI; rw [if_pos (by simp [isAny]; omega)]; rfl
theorem max_s (a b : Int) : spec_l1Max.f a b = some (max a b) := by
  unfold spec_l1Max.f
  by_cases h : a > b
  · rw [if_pos h, show max a b = a by omega]
  · rw [if_neg h, show max a b = b by omega]
theorem rk_fold (B : List Nat) (s : Nat) : ∀ n, n ≤ B.length → ((List.range n).foldl (fun (m : Int) i => max m ((cnt (s &&& B.getD i 0) : Nat) : Int)) 0) = ((rk (B.take n) s : Nat) : Int)
  | 0, _ => by simp [rk]
  | n + 1, h => by
    rw [List.range_succ, List.foldl_append, rk_fold B s n (by omega), List.take_succ_eq_append_getElem (by omega)]
    simp only [List.foldl_cons, List.foldl_nil, rk, List.foldl_append]
    rw [show B.getD n 0 = B[n] by simp [List.getElem?_eq_getElem (show n < B.length by omega)]]
    omega
section
variable {N : Nat} {B : List Nat}
theorem rank_s (hN : N ≤ 8) (hB : ∀ b ∈ B, b < 2 ^ N) (hl : B.length ≤ 17592186044416) {s : Nat} (hs : s < 256) (n : Int) : Ev (fun k => spec_l5Rank.f k n (ints B) s) (rk B s : Int) := by
  unfold spec_l5Rank.f
  have key := loop_fold0 (fun k (m : Int) i => spec_l5Rank.l0 k s m i n (ints B)) B.length (fun m i => max m ((cnt (s &&& B.getD i 0) : Nat) : Int)) (fun _ _ => True) id
    (fun m _ => by simp only [spec_l5Rank.l0, ints_length, show ¬ ((B.length : Int) < (B.length : Int)) by omega, if_false]; exact Ev.now _)
    (fun i m hi _ => ⟨trivial, fun r hr => by
      have hb := getD_lt hB i hi
      have eb := rd_get' i hi
      generalize B.getD i 0 = b at hb eb hr
      have hb8 := lt256 hN hb
      simp only [spec_l5Rank.l0, ints_length, show ((i : Int) < (B.length : Int)) by omega, show (0 : Int) ≤ (i : Int) by omega, if_true, eb, bits_and b s (by omega) (by omega), wrap_succ (show i < 9223372036854775807 by omega)]
      refine Ev.bind (CountOf_s _) ?_
      rw [cntI_nat (Nat.lt_of_le_of_lt Nat.and_le_left hb8), Nat.and_comm b s]
      simp only [max_s, Option.bind_some]
      exact hr⟩) 0 trivial
  have e := rk_fold B s B.length (Nat.le_refl _)
  rw [List.take_length] at e
  rw [e] at key
  exact key
theorem rank_i (hN : N ≤ 8) (hB : ∀ b ∈ B, b < 2 ^ N) (hl : B.length ≤ 17592186044416) {s : Nat} (hs : s < 256) (n : Int) : Ev (fun k => impl_rankIn.f k n (ints B) s) (rk B s : Int) := by
  unfold impl_rankIn.f
  have key := loop_fold0 (fun k (m : Int) i => impl_rankIn.l0 k s m (ints B) ((ints B).length : Int) i) B.length (fun m i => max m ((cnt (s &&& B.getD i 0) : Nat) : Int)) (fun _ _ => True) id
    (fun m _ => by simp only [impl_rankIn.l0, ints_length, show ¬ ((B.length : Int) < (B.length : Int)) by omega, if_false]; exact Ev.now _)
    (fun i m hi _ => ⟨trivial, fun r hr => by
      have hb := getD_lt hB i hi
      have eb := rd_get' i hi
      generalize B.getD i 0 = b at hb eb hr
      have hb8 := lt256 hN hb
      simp only [impl_rankIn.l0, ints_length, show ((i : Int) < (B.length : Int)) by omega, show (0 : Int) ≤ (i : Int) by omega, if_true, eb, bits_and s b (by omega) (by omega), wrap_succ (show i < 9223372036854775807 by omega), CountOf_i, Option.bind_some]
      rw [cntI_nat (Nat.lt_of_le_of_lt Nat.and_le_left hs)]
      rw [show mx m ((cnt (s &&& b) : Nat) : Int) = max m ((cnt (s &&& b) : Nat) : Int) by unfold mx; omega]
      simpa [ints_length] using hr⟩) 0 trivial
  have e := rk_fold B s B.length (Nat.le_refl _)
  rw [List.take_length] at e
  rw [e] at key
  simpa [ints_length] using key
end
theorem FullSet_i {N : Nat} (hN : N ≤ 8) : impl_FullSet.f (N : Int) = some ((full N : Nat) : Int) := by
  unfold impl_FullSet.f full
  have hp : (2 : Nat) ^ N ≤ 2 ^ 8 := Nat.pow_le_pow_right (by decide) hN
  have h0 : 0 < (2 : Nat) ^ N := Nat.two_pow_pos N
  simp only [isSize_i, Option.bind_some, decide_eq_true_eq, show (0 : Int) ≤ (N : Int) ∧ (N : Int) ≤ 8 from ⟨by omega, by omega⟩, and_self, if_true, show (0 : Int) ≤ (N : Int) by omega, shl_one N (by omega)]
  generalize 2 ^ N = x at hp h0
  rw [wrap_in (by omega) (by omega)]; simp; omega
theorem FullSet_s {N : Nat} (hN : N ≤ 8) : spec_FullSet.f (N : Int) = some ((full N : Nat) : Int) := by
  unfold spec_FullSet.f full
  have hp : (2 : Nat) ^ N ≤ 2 ^ 8 := Nat.pow_le_pow_right (by decide) hN
  have h0 : 0 < (2 : Nat) ^ N := Nat.two_pow_pos N
  simp only [l1In, Option.bind_some, decide_eq_true_eq, show (0 : Int) ≤ (N : Int) ∧ (N : Int) ≤ 8 from ⟨by omega, by omega⟩, and_self, if_true]
  rw [wrapu_in (by omega) (by omega), shl_one N (by omega), if_pos (by omega)]
  generalize 2 ^ N = x at hp h0
  rw [wrap_in (by omega) (by omega)]; simp; omega
theorem le_full {N s : Nat} : ((s : Int) ≤ ((full N : Nat) : Int)) ↔ s < 2 ^ N := by
  have h0 : 0 < (2 : Nat) ^ N := Nat.two_pow_pos N
  unfold full
  generalize 2 ^ N = x at h0
  omega
end Go.Proofs.Ytmeopnlkddflaaa.L
end
section
namespace Go.Proofs.Ytmeopnlkddflaaa.L
open Go.RowKit Go.Proofs.Ytmeopnlkddflaaa.F Go.Proofs.YtmeopnlkddflaaaW.PrintWords Go.Proofs.YtmeopnlkddflaaaW.PrintLast Go.Proofs.YtmeopnlkddflaaaW.PrintMore
open Go.Proofs.Ytmeopnlkddflaaa.Bits
open Go.Proofs.Ytmeopnlkddflaaa.Mt (full)
set_option linter.unusedSimpArgs false
set_option linter.unusedVariables false
/-- setsOf over a predicate that says p of all sets of N elements. -/
theorem setsO_run (q : Int → Option Bool) (p : Nat → Bool) {N : Nat} (hN : N ≤ 8) (hq : ∀ s : Nat, s < 2 ^ N → q (s : Int) = some (p s)) :
    ∀ (d j fuel : Nat) (out : List Int), j + d = 2 ^ N → d < fuel → out.length ≤ j → setsO q fuel (N : Int) out (j : Int) = some (out ++ ints ((List.range' j d).filter p))
  | 0, j, fuel + 1, out, hd, _, ho => by
    have hn : ¬ ((j : Int) ≤ ((full N : Nat) : Int)) := fun h => by have := le_full.1 h; omega
    simp only [setsO, FullSet_i hN, Option.bind_some, if_neg hn]
    simp [ints]
  | d + 1, j, fuel + 1, out, hd, hf, ho => by
    have hp : (2 : Nat) ^ N ≤ 2 ^ 8 := Nat.pow_le_pow_right (by decide) hN
    have hj : j < 2 ^ N := by omega
    simp only [setsO, FullSet_i hN, Option.bind_some, le_full.2 hj, if_true, hq j hj, wrap_succ (show j < 9223372036854775807 by omega)]
    rw [List.range'_succ, List.filter_cons]
    cases h : p j
    · simp only [Bool.false_eq_true, if_false]
      exact setsO_run q p hN hq d (j + 1) fuel out (by omega) (by omega) (by omega)
    · simp only [if_true, show out.length < 17592186044416 by omega]
      rw [setsO_run q p hN hq d (j + 1) fuel (out ++ [(j : Int)]) (by omega) (by omega) (by simp; omega)]
      simp [ints]
theorem Ev_all (Q : Nat → Int → Option Bool) (p : Nat → Bool) : ∀ m : Nat, (∀ s : Nat, s < m → Ev (fun k => Q k (s : Int)) (p s)) → ∃ K, ∀ k, K ≤ k → ∀ s : Nat, s < m → Q k (s : Int) = some (p s)
  | 0, _ => ⟨0, fun _ _ s hs => absurd hs (Nat.not_lt_zero s)⟩
  | m + 1, h => by
    obtain ⟨K, hK⟩ := Ev_all Q p m fun s hs => h s (by omega)
    obtain ⟨K', hK'⟩ := h m (by omega)
    refine ⟨max K K', fun k hk s hs => ?_⟩
    by_cases e : s = m
    · subst e; exact hK' k (by omega)
    · exact hK k (by omega) s (by omega)
theorem setsO_ev (Q : Nat → Int → Option Bool) (p : Nat → Bool) {N : Nat} (hN : N ≤ 8) (h : ∀ s : Nat, s < 2 ^ N → Ev (fun k => Q k (s : Int)) (p s)) : Ev (fun k => setsO (Q k) k (N : Int) [] 0) (ints ((List.range (2 ^ N)).filter p)) := by
  obtain ⟨K, hK⟩ := Ev_all Q p (2 ^ N) h
  refine ⟨max K (2 ^ N + 1), fun k hk => ?_⟩
  have := setsO_run (Q k) p hN (hK k (by omega)) (2 ^ N) 0 k [] (by omega) (by omega) (by simp)
  rw [List.range_eq_range']
  simpa using this
end Go.Proofs.Ytmeopnlkddflaaa.L
end
section
namespace Go.Proofs.Ytmeopnlkddflaaa.L
open Go.RowKit Go.Proofs.Ytmeopnlkddflaaa.F Go.Proofs.YtmeopnlkddflaaaW.PrintWords Go.Proofs.YtmeopnlkddflaaaW.PrintLast Go.Proofs.YtmeopnlkddflaaaW.PrintMore
open Go.Proofs.Ytmeopnlkddflaaa.Bits
open Go.Proofs.Ytmeopnlkddflaaa.Mt (sdiff bit_sdiff elems mem_elems cnt cnt_le full ins del Mat lt256 rk)
set_option linter.unusedSimpArgs false
set_option linter.unusedVariables false
def clo (B : List Nat) (s a n : Nat) : Nat := (List.range n).foldl (fun acc e => if rk B (ins s e) = rk B s then acc ||| 2 ^ e else acc) a
theorem bit_clo (B : List Nat) (s a i : Nat) : ∀ n, (clo B s a n).testBit i = (a.testBit i || (decide (i < n) && decide (rk B (ins s i) = rk B s)))
  | 0 => by simp [clo]
  | n + 1 => by
    have ih := bit_clo B s a i n
    unfold clo at ih ⊢
    rw [List.range_succ, List.foldl_append]
    simp only [List.foldl_cons, List.foldl_nil]
    by_cases h : rk B (ins s n) = rk B s
    · rw [if_pos h, Mt.bit_or, ih, Mt.bit_pow]
      by_cases e : n = i
      · subst e; simp [h]
      · have : (i < n + 1) = (i < n) := by apply propext; omega
        simp [e, this]
    · rw [if_neg h, ih]
      by_cases e : i = n
      · subst e; simp [h]
      · have : (i < n + 1) = (i < n) := by apply propext; omega
        simp [this]
theorem clo_same {N : Nat} {B : List Nat} {s : Nat} (hs : s < 2 ^ N) : clo B s s N = clo B s 0 N := Mt.ext fun i => by
  rw [bit_clo, bit_clo, Nat.zero_testBit, Bool.false_or]
  cases h : s.testBit i
  · simp
  · simp [Mt.bit_lt hs h, Mt.ins_eq h]
section
variable {N : Nat} {B : List Nat}
theorem clo_s (hN : N ≤ 8) (hB : ∀ b ∈ B, b < 2 ^ N) (hl : B.length ≤ 17592186044416) {s : Nat} (hs : s < 2 ^ N) : Ev (fun k => spec_l5Closure.f k N (ints B) s) (clo B s 0 N : Int) := by
  have hs8 := lt256 hN hs
  unfold spec_l5Closure.f
  refine Ev.bind (rank_s hN hB hl hs8 _) ?_
  rw [← clo_same hs]
  have key := loop_fold0 (fun k (a : Nat) e => spec_l5Closure.l0 k s a (rk B s : Int) e N (ints B)) N (fun acc e => if rk B (ins s e) = rk B s then acc ||| 2 ^ e else acc) (fun i a => a < 2 ^ N) (fun a => (a : Int))
    (fun a _ => by simp only [spec_l5Closure.l0, show ¬ ((N : Int) < (N : Int)) by omega, if_false]; exact Ev.now _)
    (fun e a he ha => by
      have ha8 := lt256 hN ha
      have hp : 2 ^ e ≤ 2 ^ 8 := Nat.pow_le_pow_right (by decide) (by omega)
      have hor : a ||| 2 ^ e < 2 ^ N := Nat.or_lt_two_pow ha (Nat.pow_lt_pow_right (by decide) he)
      have hor8 : s ||| 2 ^ e < 2 ^ N := Nat.or_lt_two_pow hs (Nat.pow_lt_pow_right (by decide) he)
      refine ⟨by split <;> assumption, fun r hr => ?_⟩
      simp only [spec_l5Closure.l0, show ((e : Int) < (N : Int)) by omega, if_true, wrap_succ (show e < 9223372036854775807 by omega)]
      rw [wrapu_in (by omega) (by omega)]
      simp only [show (0 : Int) ≤ (e : Int) by omega, if_true, shl_one e (by omega), bits_or s (2 ^ e) (by omega) (by omega), bits_or a (2 ^ e) (by omega) (by omega)]
      refine Ev.bind (rank_s hN hB hl (lt256 hN hor8) _) ?_
      by_cases h : rk B (ins s e) = rk B s
      · rw [if_pos h] at hr
        simp only [show ((rk B (s ||| 2 ^ e) : Int) = (rk B s : Int)) from by rw [show s ||| 2 ^ e = ins s e from rfl, h], if_true]; exact hr
      · rw [if_neg h] at hr
        simp only [show ¬ ((rk B (s ||| 2 ^ e) : Int) = (rk B s : Int)) from fun hh => h (by rw [show s ||| 2 ^ e = ins s e from rfl] at hh; omega), if_false]; exact hr) s hs
  exact key
theorem clo_i (hN : N ≤ 8) (hB : ∀ b ∈ B, b < 2 ^ N) (hl : B.length ≤ 17592186044416) {s : Nat} (hs : s < 2 ^ N) : Ev (fun k => impl_closure.f k N (ints B) s) (clo B s 0 N : Int) := by
  have hs8 := lt256 hN hs
  unfold impl_closure.f
  refine Ev.bind (rank_i hN hB hl hs8 _) ?_
  have key := loop_fold0 (fun k (a : Nat) e => impl_closure.l0 k s (rk B s : Int) a e N (ints B)) N (fun acc e => if rk B (ins s e) = rk B s then acc ||| 2 ^ e else acc) (fun i a => a < 2 ^ N) (fun a => (a : Int))
    (fun a _ => by simp only [impl_closure.l0, show ¬ ((N : Int) < (N : Int)) by omega, if_false]; exact Ev.now _)
    (fun e a he ha => by
      have ha8 := lt256 hN ha
      have hp : 2 ^ e ≤ 2 ^ 8 := Nat.pow_le_pow_right (by decide) (by omega)
      have hor : a ||| 2 ^ e < 2 ^ N := Nat.or_lt_two_pow ha (Nat.pow_lt_pow_right (by decide) he)
      have hor8 : s ||| 2 ^ e < 2 ^ N := Nat.or_lt_two_pow hs (Nat.pow_lt_pow_right (by decide) he)
      refine ⟨by split <;> assumption, fun r hr => ?_⟩
      simp only [impl_closure.l0, show ((e : Int) < (N : Int)) by omega, if_true, wrap_succ (show e < 9223372036854775807 by omega), show (0 : Int) ≤ (e : Int) by omega, shl_one e (by omega), bits_or s (2 ^ e) (by omega) (by omega), bits_or a (2 ^ e) (by omega) (by omega)]
      refine Ev.bind (rank_i hN hB hl (lt256 hN hor8) _) ?_
      by_cases h : rk B (ins s e) = rk B s
      · rw [if_pos h] at hr
        simp only [show ((rk B (s ||| 2 ^ e) : Int) = (rk B s : Int)) from by rw [show s ||| 2 ^ e = ins s e from rfl, h], if_true]; exact hr
      · rw [if_neg h] at hr
        simp only [show ¬ ((rk B (s ||| 2 ^ e) : Int) = (rk B s : Int)) from fun hh => h (by rw [show s ||| 2 ^ e = ins s e from rfl] at hh; omega), if_false]; exact hr) 0 (Nat.two_pow_pos N)
  exact key
def isFl (N : Nat) (B : List Nat) (s : Nat) : Bool := decide (clo B s 0 N = s)
def flatsN (N : Nat) (B : List Nat) (n : Nat) : List Nat := (List.range n).filter (isFl N B)
theorem flats_s (M : Mat N B) (hl : B.length ≤ 17592186044416) : Ev (fun k => spec_l7Flats.f k N (ints B)) (ints (flatsN N B (2 ^ N))) := by
  unfold spec_l7Flats.f
  have hp : (2 : Nat) ^ N ≤ 2 ^ 8 := Nat.pow_le_pow_right (by decide) M.size
  have key := loop_reach (fun k acc s => spec_l7Flats.l0 k acc s N (ints B)) (2 ^ N) (fun acc s => if isFl N B s = true then acc ++ [(s : Int)] else acc) (fun s acc => acc = ints (flatsN N B s))
    (fun s acc hs ha => ⟨by
      rw [ha]; unfold flatsN
      rw [List.range_succ, List.filter_append]
      cases h : isFl N B s <;> simp [ints, h], fun r hr => by
      have hlen : acc.length < 17592186044416 := by
        have := List.length_filter_le (isFl N B) (List.range s)
        rw [List.length_range] at this
        rw [ha, ints_length]; unfold flatsN; omega
      simp only [spec_l7Flats.l0, FullSet_s M.size, Option.bind_some, le_full.2 hs, if_true, wrap_succ (show s < 9223372036854775807 by omega)]
      refine Ev.bind (clo_s M.size M.lt hl hs) ?_
      by_cases h : clo B s 0 N = s
      · rw [show isFl N B s = true from decide_eq_true h] at hr
        simp only [if_true] at hr
        simp only [h, if_true, hlen]; exact hr
      · rw [show isFl N B s = false from decide_eq_false h] at hr
        simp only [Bool.false_eq_true, if_false] at hr
        simp only [show ¬ ((clo B s 0 N : Int) = (s : Int)) by omega, if_false]; exact hr⟩) [] (by simp [flatsN, ints])
  refine key.2 _ (Ev.succ ?_)
  rw [key.1]
  simp only [spec_l7Flats.l0, FullSet_s M.size, Option.bind_some, if_neg (fun h => Nat.lt_irrefl _ (le_full.1 h))]
  exact Ev.now _
theorem flats_i (M : Mat N B) (hl : B.length ≤ 17592186044416) : Ev (fun k => impl_flatsIn.f k N (ints B)) (ints (flatsN N B (2 ^ N))) := by
  unfold impl_flatsIn.f
  refine setsO_ev (fun k => impl_flatsIn.q k N (ints B)) (isFl N B) M.size fun s hs => ?_
  unfold impl_flatsIn.q
  refine Ev.bind (clo_i M.size M.lt hl hs) (Ev.some ?_)
  unfold isFl
  rw [Bool.eq_iff_iff, beq_iff_eq, decide_eq_true_eq]; omega
end
def flatsI (n : Int) (l : List Int) : List Int := if isMatroid n l = true then ints (flatsN n.toNat (l.map Int.toNat) (2 ^ n.toNat)) else []
theorem flatsI_length (n : Int) (l : List Int) : (flatsI n l).length ≤ 17592186044416 := by
  unfold flatsI
  split
  · rename_i h
    obtain ⟨N, B, rfl, rfl, hp, M⟩ := mat_parts h
    have hp : (2 : Nat) ^ N ≤ 2 ^ 8 := Nat.pow_le_pow_right (by decide) M.size
    have := List.length_filter_le (isFl N B) (List.range (2 ^ N))
    rw [List.length_range] at this
    rw [ints_length, Int.toNat_natCast, toNat_ints]; unfold flatsN; omega
  · simp
theorem Flats_s (n : Int) (l : List Int) (hl : l.length ≤ 17592186044416) : Ev (fun k => spec_Flats.f k n l) (flatsI n l) := by
  unfold spec_Flats.f flatsI
  refine Ev.bind (IsMatroid_s n l hl) ?_
  cases h : isMatroid n l
  · simp only [Bool.false_eq_true, if_false]; exact Ev.now _
  obtain ⟨N, B, rfl, rfl, hp, M⟩ := mat_parts h
  rw [ints_length] at hl
  simp only [if_true, toNat_ints, Int.toNat_natCast]
  exact Ev.bind (flats_s M hl) (Ev.now _)
end Go.Proofs.Ytmeopnlkddflaaa.L
end
section
namespace Go.Proofs.Ytmeopnlkddflaaa.L
open Go.RowKit Go.Proofs.Ytmeopnlkddflaaa.F Go.Proofs.YtmeopnlkddflaaaW.PrintWords Go.Proofs.YtmeopnlkddflaaaW.PrintLast Go.Proofs.YtmeopnlkddflaaaW.PrintMore
open Go.Proofs.Ytmeopnlkddflaaa.Bits
open Go.Proofs.Ytmeopnlkddflaaa.Mt (sortI sortI_of sortI_sorted mem_sortI sortI_len)
set_option linter.unusedSimpArgs false
set_option linter.unusedVariables false
/-- The sets of a list, in order, each once. -/
def sortN (L : List Nat) : List Nat := (List.range 256).filter fun s => decide (s ∈ L)
theorem ints_sorted {L : List Nat} (h : L.Pairwise (· < ·)) : (ints L).Pairwise (· < ·) := by
  unfold ints
  rw [List.pairwise_map]
  exact h.imp fun h => by omega
theorem in_ints {L : List Nat} {x : Int} : x ∈ ints L ↔ ∃ n, n ∈ L ∧ (n : Int) = x := by simp [ints]
theorem range_sorted (p : Nat → Bool) (n : Nat) : ((List.range n).filter p).Pairwise (· < ·) := List.Pairwise.filter _ List.pairwise_lt_range
theorem mem_sortN {L : List Nat} (hL : ∀ x ∈ L, x < 256) {s : Nat} : s ∈ sortN L ↔ s ∈ L := by
  unfold sortN
  rw [List.mem_filter, List.mem_range, decide_eq_true_eq]
  exact ⟨fun h => h.2, fun h => ⟨hL s h, h⟩⟩
theorem sortN_sorted (L : List Nat) : (sortN L).Pairwise (· < ·) := range_sorted _ _
theorem sortN_len (L : List Nat) : (sortN L).length ≤ 256 := by
  have := List.length_filter_le (fun s => decide (s ∈ L)) (List.range 256)
  rwa [List.length_range] at this
theorem sortI_ints {L : List Nat} (hL : ∀ x ∈ L, x < 256) : sortI (ints L) = ints (sortN L) := sortI_of (ints_sorted (sortN_sorted L)) fun x => by
  rw [in_ints, in_ints]
  exact ⟨fun ⟨n, h, e⟩ => ⟨n, (mem_sortN hL).1 h, e⟩, fun ⟨n, h, e⟩ => ⟨n, (mem_sortN hL).2 h, e⟩⟩
theorem sorted_extN : ∀ {l l' : List Nat}, l.Pairwise (· < ·) → l'.Pairwise (· < ·) → (∀ x, x ∈ l ↔ x ∈ l') → l = l'
  | [], [], _, _, _ => rfl
  | [], b :: _, _, _, hm => absurd ((hm b).2 (List.mem_cons_self ..)) (by simp)
  | a :: _, [], _, _, hm => absurd ((hm a).1 (List.mem_cons_self ..)) (by simp)
  | a :: l, b :: l', h, h', hm => by
    rw [List.pairwise_cons] at h h'
    have hab : a = b := by
      rcases List.mem_cons.1 ((hm a).1 (List.mem_cons_self ..)) with e | e
      · exact e
      · rcases List.mem_cons.1 ((hm b).2 (List.mem_cons_self ..)) with e' | e'
        · exact e'.symm
        · have := h'.1 a e; have := h.1 b e'; omega
    subst hab
    rw [sorted_extN h.2 h'.2 fun x => ⟨fun hx => by
      rcases List.mem_cons.1 ((hm x).1 (List.mem_cons_of_mem _ hx)) with e | e
      · subst e; have := h.1 x hx; omega
      · exact e, fun hx => by
      rcases List.mem_cons.1 ((hm x).2 (List.mem_cons_of_mem _ hx)) with e | e
      · subst e; have := h'.1 x hx; omega
      · exact e⟩]
theorem ins_facts (s : List Int) (x : Int) (j : Nat) (h : s.Pairwise (· < ·)) (h1 : ∀ a ∈ s.take j, a < x) (h2 : ∀ a ∈ s.drop j, x < a) :
    (s.take j ++ [x] ++ s.drop j).Pairwise (· < ·) ∧ ∀ a, a ∈ s.take j ++ [x] ++ s.drop j ↔ a = x ∨ a ∈ s := by
  have e : s.take j ++ s.drop j = s := List.take_append_drop j s
  have hp : (s.take j ++ s.drop j).Pairwise (· < ·) := by rw [e]; exact h
  rw [List.pairwise_append] at hp
  constructor
  · rw [List.pairwise_append, List.pairwise_append]
    refine ⟨⟨hp.1, by simp, fun a ha b hb => ?_⟩, hp.2.1, fun a ha b hb => ?_⟩
    · simp only [List.mem_singleton] at hb; subst hb; exact h1 a ha
    · rcases List.mem_append.1 ha with ha | ha
      · exact hp.2.2 a ha b hb
      · simp only [List.mem_singleton] at ha; subst ha; exact h2 b hb
  · intro a
    have hm : a ∈ s ↔ a ∈ s.take j ∨ a ∈ s.drop j := by
      have := List.mem_append (a := a) (s := s.take j) (t := s.drop j)
      rwa [e] at this
    rw [hm]
    simp only [List.mem_append, List.mem_singleton]
    constructor
    · rintro ((h | h) | h)
      · exact .inr (.inl h)
      · exact .inl h
      · exact .inr (.inr h)
    · rintro (h | h | h)
      · exact .inl (.inr h)
      · exact .inl (.inl h)
      · exact .inr h
theorem sort_inner (l s : List Int) (i : Nat) (hi : i < l.length) (hl : l.length < 17592186044416) (hs : s.Pairwise (· < ·)) (hlen : s.length ≤ i) (r : List Int)
    (hcont : ∀ s' : List Int, s'.Pairwise (· < ·) → (∀ a, a ∈ s' ↔ a = l.getD i 0 ∨ a ∈ s) → s'.length ≤ i + 1 → Ev (fun k => spec_SortSets.l0 k l s' ((i + 1 : Nat) : Int)) r) :
    ∀ (d j : Nat), j + d = s.length → (∀ a ∈ s.take j, a < l.getD i 0) → Ev (fun k => spec_SortSets.l1 k l s (i : Int) (j : Int)) r
  | 0, j, hd, h1 => by
    have hj : j = s.length := by omega
    subst hj
    have hf := ins_facts s (l.getD i 0) s.length hs h1 (by simp)
    have hl1 := hcont _ hf.1 hf.2 (by simp; omega)
    refine Ev.succ ?_
    simp only [spec_SortSets.l1, show ¬ ((s.length : Int) < (s.length : Int)) by omega, if_false, Option.bind_some, show (0 : Int) ≤ (s.length : Int) by omega, show (s.length : Int) ≤ (s.length : Int) by omega, if_true, Int.toNat_natCast,
      show (0 : Int) ≤ (i : Int) by omega, show (i : Int) < (l.length : Int) by omega, rd_getD, List.nil_append, List.length_nil, Nat.zero_add, wrap_succ (show i < 9223372036854775807 by omega)]
    simp only [show (s.drop s.length).length < 17592186044416 by simp, show (s.take s.length).length < 17592186044416 by simp; omega, if_true,
      show (s.take s.length ++ [l.getD i 0]).length + (s.drop s.length).length < 17592186044416 by simp; omega]
    exact hl1
  | d + 1, j, hd, h1 => by
    have hj : j < s.length := by omega
    have e1 : s.getD j 0 = s[j] := by simp [List.getElem?_eq_getElem hj]
    refine Ev.succ ?_
    simp only [spec_SortSets.l1, show ((j : Int) < (s.length : Int)) by omega, if_true, show (0 : Int) ≤ (j : Int) by omega, show (0 : Int) ≤ (i : Int) by omega, show (i : Int) < (l.length : Int) by omega, rd_getD,
      wrap_succ (show i < 9223372036854775807 by omega), wrap_succ (show j < 9223372036854775807 by omega)]
    by_cases c : s.getD j 0 < l.getD i 0
    · simp only [c, if_true]
      refine sort_inner l s i hi hl hs hlen r hcont d (j + 1) (by omega) fun a ha => ?_
      rw [List.take_succ_eq_append_getElem hj, List.mem_append] at ha
      rcases ha with ha | ha
      · exact h1 a ha
      · simp only [List.mem_singleton] at ha; subst ha; rw [← e1]; exact c
    · simp only [c, if_false]
      by_cases c2 : s.getD j 0 = l.getD i 0
      · simp only [c2, if_true]
        refine hcont s hs (fun a => ⟨.inr, fun h => ?_⟩) (by omega)
        rcases h with h | h
        · rw [h, ← c2, e1]; exact List.getElem_mem hj
        · exact h
      · simp only [c2, if_false]
        have h2 : ∀ a ∈ s.drop j, l.getD i 0 < a := fun a ha => by
          rw [List.drop_eq_getElem_cons hj] at ha
          rcases List.mem_cons.1 ha with ha | ha
          · subst ha; rw [e1] at c c2; omega
          · have hp : (s.drop j).Pairwise (· < ·) := List.Pairwise.drop hs
            rw [List.drop_eq_getElem_cons hj, List.pairwise_cons] at hp
            have := hp.1 a ha
            rw [e1] at c c2; omega
        have hf := ins_facts s (l.getD i 0) j hs h1 h2
        have hl1 := hcont _ hf.1 hf.2 (by simp; omega)
        simp only [Option.bind_some, show (j : Int) ≤ (s.length : Int) by omega, if_true, Int.toNat_natCast, List.nil_append, List.length_nil, Nat.zero_add]
        simp only [show (s.drop j).length < 17592186044416 by simp; omega, show (s.take j).length < 17592186044416 by simp; omega, if_true,
          show (s.take j ++ [l.getD i 0]).length + (s.drop j).length < 17592186044416 by simp; omega]
        exact hl1
theorem sort_outer (l : List Int) (hl : l.length < 17592186044416) : ∀ (d i : Nat) (s : List Int), i + d = l.length → s.Pairwise (· < ·) → (∀ a, a ∈ s ↔ a ∈ l.take i) → s.length ≤ i → Ev (fun k => spec_SortSets.l0 k l s (i : Int)) (sortI l)
  | 0, i, s, hd, hs, hm, _ => by
    have hi : i = l.length := by omega
    subst hi
    rw [List.take_length] at hm
    refine Ev.succ ?_
    simp only [spec_SortSets.l0, show ¬ ((l.length : Int) < (l.length : Int)) by omega, if_false]
    exact Ev.some (sortI_of hs hm).symm
  | d + 1, i, s, hd, hs, hm, hlen => by
    have hi : i < l.length := by omega
    refine Ev.succ ?_
    simp only [spec_SortSets.l0, show ((i : Int) < (l.length : Int)) by omega, if_true]
    refine sort_inner l s i hi hl hs hlen _ (fun s' h1 h2 h3 => ?_) s.length 0 (by omega) (by simp)
    refine sort_outer l hl d (i + 1) s' (by omega) h1 (fun a => ?_) h3
    rw [h2, hm, List.take_succ_eq_append_getElem hi, List.mem_append, List.mem_singleton, show l.getD i 0 = l[i] by simp [List.getElem?_eq_getElem hi]]
    exact ⟨fun h => h.elim .inr .inl, fun h => h.elim .inr .inl⟩
theorem SortSets_sI (l : List Int) (hl : l.length < 17592186044416) : Ev (fun k => spec_SortSets.f k l) (sortI l) := by
  unfold spec_SortSets.f
  exact sort_outer l hl l.length 0 [] (by omega) (by simp) (by simp) (by simp)
theorem SortSets_s {L : List Nat} (hL : ∀ x ∈ L, x < 256) (hl : L.length < 17592186044416) : Ev (fun k => spec_SortSets.f k (ints L)) (ints (sortN L)) := by
  rw [← sortI_ints hL]; exact SortSets_sI _ (by rw [ints_length]; exact hl)
end Go.Proofs.Ytmeopnlkddflaaa.L
end
section
namespace Go.Proofs.Ytmeopnlkddflaaa.L
open Go.RowKit Go.Proofs.Ytmeopnlkddflaaa.F Go.Proofs.YtmeopnlkddflaaaW.PrintWords Go.Proofs.YtmeopnlkddflaaaW.PrintLast Go.Proofs.YtmeopnlkddflaaaW.PrintMore
open Go.Proofs.Ytmeopnlkddflaaa.Bits
open Go.Proofs.Ytmeopnlkddflaaa.Mt (sub_iff_and sub_iff_sdiff)
theorem isAny_nat {a : Nat} (ha : a < 256) : isAny (a : Int) = true := by simp [isAny]; omega
theorem IsSubset_i {a b : Nat} (ha : a < 256) (hb : b < 256) : impl_IsSubset.f (a : Int) (b : Int) = some (decide (a &&& b = a)) := by
  unfold impl_IsSubset.f
  rw [isAny_i, isAny_i]
  simp only [isAny_nat ha, isAny_nat hb, Option.bind_some, if_true, bits_andNot a b (by omega) (by omega)]
  rw [Option.some.injEq, Bool.eq_iff_iff, beq_iff_eq, decide_eq_true_eq, ← sub_iff_and, sub_iff_sdiff]
  omega
end Go.Proofs.Ytmeopnlkddflaaa.L
end
