/- Functions of the program as plain Lean functions, and that the Go calls answer just so, under no condition but that the plain function answers. Written by this session's program pr.py over the kit's printer, out of the translation. -/
import Derived.Test.YteggmbhcnhbamaaFx0
import Derived.Test.YteggmbhcnhbamaaFx1
import Derived.Test.YteggmbhcnhbamaaFx2
import Derived.Test.YteggmbhcnhbamaaFx8
import Derived.Test.YteggmbhcnhbamaaFx17
import Derived.Test.YteggmbhcnhbamaaFx31
import Derived.Test.YteggmbhcnhbamaaFx40
namespace Go.Proofs.Yteggmbhcnhbamaa.F
open Go.RowKit Go.Proofs.YteggmbhcnhbamaaW.PrintWords Go.Proofs.YteggmbhcnhbamaaW.PrintLast Go.Proofs.YteggmbhcnhbamaaW.PrintMore
attribute [local go_sem] max2_int min2_int max_two min_two max_three min_three max_four min_four   -- for this text's walks alone
set_option linter.unusedVariables false
set_option linter.unusedSimpArgs false

/-! ### laws_FnExactFromIndependent: function 4 -/
mutual
def laws_FnExactFromIndependent.j0 : Nat → Int → List Int → Bool → List Int → Bool → Bool → Int → List Int → Int → List Int → Option (Bool)
  | 0, _, _, _, _, _, _, _, _, _, _ => none
  | k + 1, x0, x1, x6, x7, x9, x41, x380000, x380001, x389000, x389001 => if x41 = true then (none) else ((laws_toIntS.f k x1).bind fun t390 => ((laws_eqIntS.f k x7 t390).bind fun t393 => (if t393 = true then ((laws_markIntS.f k x7 1).bind fun bt394 => (if bt394.1 < 0 then (laws_FnExactFromIndependent.j1 k x0 x1 x6 true x380000 x380001 x389000 x389001) else ((laws_eqMatroid.f k x389000 x389001 x380000 x380001).bind fun t396 => (if t396 = true then (laws_FnExactFromIndependent.j1 k x0 x1 x6 (x9 != x6) x380000 x380001 x389000 x389001) else (laws_FnExactFromIndependent.j1 k x0 x1 x6 true x380000 x380001 x389000 x389001))))) else (none))))
def laws_FnExactFromIndependent.j1 : Nat → Int → List Int → Bool → Bool → Int → List Int → Int → List Int → Option (Bool)
  | 0, _, _, _, _, _, _, _, _ => none
  | k + 1, x0, x1, x6, x62, x380000, x380001, x389000, x389001 => if x62 = true then (none) else ((laws_markMatroid.f k x389000 x389001 1).bind fun bt397 => ((laws_heldMatroid.f k x389000 bt397.2 1).bind fun t399 => (if t399 < 0 then (none) else (if t399 = bt397.1 then ((laws_toIntS.f k x1).bind fun t400 => ((impl_FromIndependent.f k x0 t400).bind fun bt403 => ((laws_eqMatroid.f k bt403.1 bt403.2.1 x380000 x380001).bind fun t409 => (if t409 = true then (laws_FnExactFromIndependent.j2 k bt397.1 (bt403.2.2 != x6) x389000 bt397.2) else (laws_FnExactFromIndependent.j2 k bt397.1 true x389000 bt397.2))))) else (none)))))
def laws_FnExactFromIndependent.j2 : Nat → Int → Bool → Int → List Int → Option (Bool)
  | 0, _, _, _, _ => none
  | k + 1, x11, x89, x389000, x389001 => if x89 = true then (none) else ((laws_heldMatroid.f k x389000 x389001 1).bind fun t410 => (if t410 < 0 then (none) else (if t410 = x11 then (some true) else (none))))
end
def laws_FnExactFromIndependent.f (k : Nat) (a0 : Int) (l1 : List Int) : Option (Bool) := if (l1.length : Int) > 1048576 then (some true) else ((laws_toIntS.f k l1).bind fun t371 => ((spec_FromIndependent.f k a0 t371).bind fun bt374 => ((laws_toIntS.f k l1).bind fun t380 => ((impl_FromIndependent.f k a0 t380).bind fun bt383 => ((laws_eqMatroid.f k bt383.1 bt383.2.1 bt374.1 bt374.2.1).bind fun t389 => (if t389 = true then (laws_FnExactFromIndependent.j0 k a0 l1 bt374.2.2 t380 bt383.2.2 (bt383.2.2 != bt374.2.2) bt374.1 bt374.2.1 bt383.1 bt383.2.1) else (laws_FnExactFromIndependent.j0 k a0 l1 bt374.2.2 t380 bt383.2.2 true bt374.1 bt374.2.1 bt383.1 bt383.2.1)))))))
set_option maxHeartbeats 8000000 in
set_option maxRecDepth 100000 in
theorem laws_FnExactFromIndependent.calls (k : Nat) (a0 : Int) (A1 : Option Addr) (c1 : Nat) (l1 : List Int) (r : Bool) (w : World) (hr1 : Kd.C (Kd.int .i64) w A1 l1.length l1) (hc1 : l1.length ≤ c1) (h : laws_FnExactFromIndependent.f k a0 l1 = some r) :
    Calls Try.prog 4 #[.int .i64 a0, .slice A1 l1.length c1] w fun e w' => e = .returned (.bool r) ∧ Below w.heap.size w w' := by
  have hu27 := Try.underlying27
  have HR1 := Aside0.mk hr1
  have HC1 := Aside0.mk hc1
  clear hr1 hc1
  have HB := Aside0.mk (Below.refl w.heap.size w)
  have H : (if (l1.length : Int) > 1048576 then (some true) else ((laws_toIntS.f k l1).bind fun t371 => ((spec_FromIndependent.f k a0 t371).bind fun bt374 => ((laws_toIntS.f k l1).bind fun t380 => ((impl_FromIndependent.f k a0 t380).bind fun bt383 => ((laws_eqMatroid.f k bt383.1 bt383.2.1 bt374.1 bt374.2.1).bind fun t389 => (if t389 = true then (laws_FnExactFromIndependent.j0 k a0 l1 bt374.2.2 t380 bt383.2.2 (bt383.2.2 != bt374.2.2) bt374.1 bt374.2.1 bt383.1 bt383.2.1) else (laws_FnExactFromIndependent.j0 k a0 l1 bt374.2.2 t380 bt383.2.2 true bt374.1 bt374.2.1 bt383.1 bt383.2.1)))))))) = some r := h
  clear h
  by_cases c3 : (l1.length : Int) > 1048576
  · rw [if_pos c3] at H
    have c3b0 : decide (1048576 < (l1.length : Int)) = true := decide_eq_true c3
    have c3b1 : decide (1048576 < l1.length) = true := decide_eq_true (by omega)
    clear c3
    obtain rfl := Option.some.inj H
    go_enter Try.func4, Try.ntmps4
    go_wp2
    go_ret
    exact ⟨by first | rfl | (simp [errW_none, errW_some] <;> rfl) | (simp [*, errW_none, errW_some] <;> rfl), by repeat (first | (with_reducible first | exact HB.out | apply below_alloc | apply pw_below_drewN | apply below_drew1) | exact HB.out)⟩
  · rw [if_neg c3] at H
    have c3b0 : decide (1048576 < (l1.length : Int)) = false := decide_eq_false c3
    have c3b1 : decide (1048576 < l1.length) = false := decide_eq_false (by omega)
    clear c3
    replace H := Option.bind_eq_some_iff.mp H
    obtain ⟨t371, A40, H⟩ := H
    replace H : ((spec_FromIndependent.f k a0 t371).bind fun bt374 => ((laws_toIntS.f k l1).bind fun t380 => ((impl_FromIndependent.f k a0 t380).bind fun bt383 => ((laws_eqMatroid.f k bt383.1 bt383.2.1 bt374.1 bt374.2.1).bind fun t389 => (if t389 = true then (laws_FnExactFromIndependent.j0 k a0 l1 bt374.2.2 t380 bt383.2.2 (bt383.2.2 != bt374.2.2) bt374.1 bt374.2.1 bt383.1 bt383.2.1) else (laws_FnExactFromIndependent.j0 k a0 l1 bt374.2.2 t380 bt383.2.2 true bt374.1 bt374.2.1 bt383.1 bt383.2.1)))))) = some r := H
    have A4 := Aside0.mk A40
    clear A40
    replace H := Option.bind_eq_some_iff.mp H
    obtain ⟨⟨t374, t375, t378⟩, A50, H⟩ := H
    replace H : ((laws_toIntS.f k l1).bind fun t380 => ((impl_FromIndependent.f k a0 t380).bind fun bt383 => ((laws_eqMatroid.f k bt383.1 bt383.2.1 t374 t375).bind fun t389 => (if t389 = true then (laws_FnExactFromIndependent.j0 k a0 l1 t378 t380 bt383.2.2 (bt383.2.2 != t378) t374 t375 bt383.1 bt383.2.1) else (laws_FnExactFromIndependent.j0 k a0 l1 t378 t380 bt383.2.2 true t374 t375 bt383.1 bt383.2.1))))) = some r := H
    have A5 := Aside0.mk A50
    clear A50
    replace H := Option.bind_eq_some_iff.mp H
    obtain ⟨t380, A60, H⟩ := H
    replace H : ((impl_FromIndependent.f k a0 t380).bind fun bt383 => ((laws_eqMatroid.f k bt383.1 bt383.2.1 t374 t375).bind fun t389 => (if t389 = true then (laws_FnExactFromIndependent.j0 k a0 l1 t378 t380 bt383.2.2 (bt383.2.2 != t378) t374 t375 bt383.1 bt383.2.1) else (laws_FnExactFromIndependent.j0 k a0 l1 t378 t380 bt383.2.2 true t374 t375 bt383.1 bt383.2.1)))) = some r := H
    have A6 := Aside0.mk A60
    clear A60
    replace H := Option.bind_eq_some_iff.mp H
    obtain ⟨⟨t383, t384, t387⟩, A70, H⟩ := H
    replace H : ((laws_eqMatroid.f k t383 t384 t374 t375).bind fun t389 => (if t389 = true then (laws_FnExactFromIndependent.j0 k a0 l1 t378 t380 t387 (t387 != t378) t374 t375 t383 t384) else (laws_FnExactFromIndependent.j0 k a0 l1 t378 t380 t387 true t374 t375 t383 t384))) = some r := H
    have A7 := Aside0.mk A70
    clear A70
    have HC8 := Aside0.mk H
    clear H
    go_enter Try.func4, Try.ntmps4
    go_upto_region 6 with (first | ((with_reducible refine gate_callee (f := 21) rfl ?_); refine goesL_ (some 21) rfl rfl Try.func21 (by kernel_rfl) rfl #[.slice A1 l1.length c1] rfl (by (try simp only [List.map_toArray, List.map_cons, List.map_nil]); first | done | rfl | (simp only [List.length_drop, List.length_take]; rfl)) ?_; (with_reducible refine (laws_toIntS.calls k _ _ l1 t371 _ ?side1 ?side2 A4.out).mono ?_); (case side1 => repeat (first | exact HR1.out | (with_reducible refine Kd.C_alloc ?_ _) | (with_reducible refine Kd.C_drewN ?_ _) | (with_reducible refine Kd.C_drew ?_))); (case side2 => exact HC1.out); rintro e w9 ⟨v372, rfl, ho0, hb⟩; refine ⟨_, rfl, ?_⟩; have n0_ := Aside0.mk (Kd.R_lower ho0 (below_size (by repeat (first | (with_reducible first | exact HB.out | apply below_alloc | apply pw_below_drewN | apply below_drew1) | exact HB.out)))); have n1_ := Aside0.mk (below_step (by repeat (first | (with_reducible first | exact HB.out | apply below_alloc | apply pw_below_drewN | apply below_drew1) | exact HB.out)) hb); clear HB; have HO373 := n0_; have HB := n1_; clear n0_ n1_; (try clear hb); (try clear hb2); (try clear hk); (try clear hi); (try clear ho0); obtain ⟨Ao10, co10, eo10⟩ := Kd.R_slice HO373.out; subst eo10) | ((with_reducible refine gate_callee (f := 20) rfl ?_); refine goesL_ (some 22) rfl rfl Try.func20 (by kernel_rfl) rfl #[.int .i64 a0, .slice Ao10 t371.length co10] rfl (by (try simp only [List.map_toArray, List.map_cons, List.map_nil]); first | done | rfl | (simp only [List.length_drop, List.length_take]; rfl)) ?_; (with_reducible refine (spec_FromIndependent.calls k a0 _ _ t371 t374 t375 t378 _ ?side1 ?side2 A5.out).mono ?_); (case side1 => repeat (first | exact (Kd.R_reads' HO373.out).2.2 | (with_reducible refine Kd.C_alloc ?_ _) | (with_reducible refine Kd.C_drewN ?_ _) | (with_reducible refine Kd.C_drew ?_))); (case side2 => exact (Kd.R_reads' HO373.out).2.1); rintro e w11 ⟨v376, rfl, ho0, hb⟩; refine ⟨_, rfl, ?_⟩; have n0_ := Aside0.mk (Kd.R_elder' (by (with_reducible repeat (first | apply Kd.R_alloc | apply Kd.R_drewN | apply Kd.R_drew)); exact HO373.out) (Kd.R_base ho0) hb); have n1_ := Aside0.mk (Kd.R_lower (Kd.R_new' ho0 (Kd.R_lt (by (with_reducible repeat (first | apply Kd.R_alloc | apply Kd.R_drewN | apply Kd.R_drew)); exact HO373.out))) (below_size (by repeat (first | (with_reducible first | exact HB.out | apply below_alloc | apply pw_below_drewN | apply below_drew1) | exact HB.out)))); have n2_ := Aside0.mk (below_step (by repeat (first | (with_reducible first | exact HB.out | apply below_alloc | apply pw_below_drewN | apply below_drew1) | exact HB.out)) hb); clear HO373; clear HB; have HO373 := n0_; have HO377 := n1_; have HB := n2_; clear n0_ n1_ n2_; (try clear hb); (try clear hb2); (try clear hk); (try clear hi); (try clear ho0)) | ((with_reducible refine gate_dst (N := 5) rfl ?_); refine box_event ?hg (N := 5) ?hd (cs := #[.int .i64 0, .slice none 0 0]) (t := 27) ?hr ?_; (case hd => rfl); (case hg => rfl); (case hr => first | (go_simp; done) | (go_simp; rfl)); intro gb379 hg w12 hbox hb; have n0_ := Aside0.mk (Kd.R_below (by (with_reducible repeat (first | apply Kd.R_alloc | apply Kd.R_drewN | apply Kd.R_drew)); exact HO373.out) hb); have n1_ := Aside0.mk (Kd.R_below (by (with_reducible repeat (first | apply Kd.R_alloc | apply Kd.R_drewN | apply Kd.R_drew)); exact HO377.out) hb); have n2_ := Aside0.mk (below_step (by repeat (first | (with_reducible first | exact HB.out | apply below_alloc | apply pw_below_drewN | apply below_drew1) | exact HB.out)) hb); have n3_ := Aside0.mk (hbox); have n4_ := Aside0.mk ((by rw [hg]; exact (below_size (by repeat (first | (with_reducible first | exact HB.out | apply below_alloc | apply pw_below_drewN | apply below_drew1) | exact HB.out))) : w.heap.size ≤ gb379)); have n5_ := Aside0.mk ((by rw [hg]; exact (below_size (by repeat (first | (with_reducible first | exact HB.out | apply below_alloc | apply pw_below_drewN | apply below_drew1) | exact HB.out))) : w.heap.size ≤ gb379)); clear HO373; clear HO377; clear HB; have HO373 := n0_; have HO377 := n1_; have HB := n2_; have BK379 := n3_; have GW379 := n4_; have GE379 := n5_; clear n0_ n1_ n2_ n3_ n4_ n5_; clear hb hbox hg; have hcz13_0 : w12.cell? ⟨gb379, 0, none⟩ = some (.int .i64 0) := (blk_cell BK379.out 0).trans rfl; have hcz13_1 : w12.cell? ⟨gb379, 1, none⟩ = some (.slice none 0 0) := (blk_cell BK379.out 1).trans rfl; have hfz13_0 := blk_frozen BK379.out 0; have hfz13_1 := blk_frozen BK379.out 1; obtain ⟨Ao14, co14, eo14⟩ := Kd.R_slice HO377.out; subst eo14) | ((with_reducible refine gate_callee (f := 21) rfl ?_); refine goesL_ (some 26) rfl rfl Try.func21 (by kernel_rfl) rfl #[.slice A1 l1.length c1] rfl (by (try simp only [List.map_toArray, List.map_cons, List.map_nil]); first | done | rfl | (simp only [List.length_drop, List.length_take]; rfl)) ?_; (with_reducible refine (laws_toIntS.calls k _ _ l1 t380 _ ?side1 ?side2 A6.out).mono ?_); (case side1 => exact Kd.C_below HR1.out (by repeat (first | (with_reducible first | exact HB.out | apply below_alloc | apply pw_below_drewN | apply below_drew1 | refine below_set ?_ GE379.out) | exact HB.out))); (case side2 => exact HC1.out); rintro e w15 ⟨v381, rfl, ho0, hb⟩; refine ⟨_, rfl, ?_⟩; have n0_ := Aside0.mk (Kd.R_elder' (by (with_reducible repeat (first | apply Kd.R_alloc | apply Kd.R_drewN | apply Kd.R_drew)); exact (Kd.R_mono (Kd.R_far (p := ⟨gb379, 1, none⟩) (Kd.R_far (p := ⟨gb379, 0, none⟩) (Kd.R_types HO373.out BK379.out (by decide)) (fun _ hk => hk.2) (.int .i64 t374)) (fun _ hk => hk.2) (.slice Ao14 t375.length co14)) (fun _ h_ => h_.1))) (Kd.R_base ho0) hb); have n1_ := Aside0.mk (Kd.R_elder' (by (with_reducible repeat (first | apply Kd.R_alloc | apply Kd.R_drewN | apply Kd.R_drew)); exact (Kd.R_mono (Kd.R_far (p := ⟨gb379, 1, none⟩) (Kd.R_far (p := ⟨gb379, 0, none⟩) (Kd.R_types HO377.out BK379.out (by decide)) (fun _ hk => hk.2) (.int .i64 t374)) (fun _ hk => hk.2) (.slice Ao14 t375.length co14)) (fun _ h_ => h_.1))) (Kd.R_base ho0) hb); have n2_ := Aside0.mk (Kd.R_lower (Kd.R_new' (Kd.R_new' ho0 (Kd.R_lt (by (with_reducible repeat (first | apply Kd.R_alloc | apply Kd.R_drewN | apply Kd.R_drew)); exact (Kd.R_mono (Kd.R_far (p := ⟨gb379, 1, none⟩) (Kd.R_far (p := ⟨gb379, 0, none⟩) (Kd.R_types HO373.out BK379.out (by decide)) (fun _ hk => hk.2) (.int .i64 t374)) (fun _ hk => hk.2) (.slice Ao14 t375.length co14)) (fun _ h_ => h_.1))))) (Kd.R_lt (by (with_reducible repeat (first | apply Kd.R_alloc | apply Kd.R_drewN | apply Kd.R_drew)); exact (Kd.R_mono (Kd.R_far (p := ⟨gb379, 1, none⟩) (Kd.R_far (p := ⟨gb379, 0, none⟩) (Kd.R_types HO377.out BK379.out (by decide)) (fun _ hk => hk.2) (.int .i64 t374)) (fun _ hk => hk.2) (.slice Ao14 t375.length co14)) (fun _ h_ => h_.1))))) (below_size (by repeat (first | (with_reducible first | exact HB.out | apply below_alloc | apply pw_below_drewN | apply below_drew1 | refine below_set ?_ GE379.out) | exact HB.out)))); have n3_ := Aside0.mk (blk_below (g := gb379) (o := .cells #[.int .i64 t374, .slice Ao14 t375.length co14] 27 (0, 0)) (by (with_reducible repeat (first | refine blk_drewN ?_ _ | refine blk_drew ?_ | refine blk_alloc ?_ _)); refine blk_put (cs := #[.int .i64 t374, .slice none 0 0]) ?_ 1 _ rfl; (with_reducible repeat (first | refine blk_drewN ?_ _ | refine blk_drew ?_ | refine blk_alloc ?_ _)); refine blk_put (cs := #[.int .i64 0, .slice none 0 0]) ?_ 0 _ rfl; (with_reducible repeat (first | refine blk_drewN ?_ _ | refine blk_drew ?_ | refine blk_alloc ?_ _)); exact BK379.out) hb); have n4_ := Aside0.mk (below_step (by repeat (first | (with_reducible first | exact HB.out | apply below_alloc | apply pw_below_drewN | apply below_drew1 | refine below_set ?_ GE379.out) | exact HB.out)) hb); clear HO373; clear HO377; clear BK379; clear HB; have HO373 := n0_; have HO377 := n1_; have HO382 := n2_; have BK379 := n3_; have HB := n4_; clear n0_ n1_ n2_ n3_ n4_; (try clear hb); (try clear hb2); (try clear hk); (try clear hi); (try clear ho0); obtain ⟨Ao16, co16, eo16⟩ := Kd.R_slice HO382.out; subst eo16) | ((with_reducible refine gate_callee (f := 22) rfl ?_); refine goesL_ (some 30) rfl rfl Try.func22 (by kernel_rfl) rfl #[.int .i64 a0, .slice Ao16 t380.length co16] rfl (by (try simp only [List.map_toArray, List.map_cons, List.map_nil]); first | done | rfl | (simp only [List.length_drop, List.length_take]; rfl)) ?_; (with_reducible refine (impl_FromIndependent.calls k a0 _ _ t380 t383 t384 t387 _ ?side1 ?side2 A7.out).mono ?_); (case side1 => repeat (first | exact (Kd.R_reads' HO382.out).2.2 | (with_reducible refine Kd.C_alloc ?_ _) | (with_reducible refine Kd.C_drewN ?_ _) | (with_reducible refine Kd.C_drew ?_))); (case side2 => exact (Kd.R_reads' HO382.out).2.1); rintro e w17 ⟨v385, rfl, ho0, hb⟩; refine ⟨_, rfl, ?_⟩; have n0_ := Aside0.mk (Kd.R_elder' (by (with_reducible repeat (first | apply Kd.R_alloc | apply Kd.R_drewN | apply Kd.R_drew)); exact HO373.out) (Kd.R_base ho0) hb); have n1_ := Aside0.mk (Kd.R_elder' (by (with_reducible repeat (first | apply Kd.R_alloc | apply Kd.R_drewN | apply Kd.R_drew)); exact HO377.out) (Kd.R_base ho0) hb); have n2_ := Aside0.mk (Kd.R_elder' (by (with_reducible repeat (first | apply Kd.R_alloc | apply Kd.R_drewN | apply Kd.R_drew)); exact HO382.out) (Kd.R_base ho0) hb); have n3_ := Aside0.mk (Kd.R_lower (Kd.R_new' (Kd.R_new' (Kd.R_new' ho0 (Kd.R_lt (by (with_reducible repeat (first | apply Kd.R_alloc | apply Kd.R_drewN | apply Kd.R_drew)); exact HO373.out))) (Kd.R_lt (by (with_reducible repeat (first | apply Kd.R_alloc | apply Kd.R_drewN | apply Kd.R_drew)); exact HO377.out))) (Kd.R_lt (by (with_reducible repeat (first | apply Kd.R_alloc | apply Kd.R_drewN | apply Kd.R_drew)); exact HO382.out))) (below_size (by repeat (first | (with_reducible first | exact HB.out | apply below_alloc | apply pw_below_drewN | apply below_drew1 | refine below_set ?_ GE379.out) | exact HB.out)))); have n4_ := Aside0.mk (blk_below (g := gb379) (o := .cells #[.int .i64 t374, .slice Ao14 t375.length co14] 27 (0, 0)) (by (with_reducible repeat (first | refine blk_drewN ?_ _ | refine blk_drew ?_ | refine blk_alloc ?_ _)); exact BK379.out) hb); have n5_ := Aside0.mk (below_step (by repeat (first | (with_reducible first | exact HB.out | apply below_alloc | apply pw_below_drewN | apply below_drew1 | refine below_set ?_ GE379.out) | exact HB.out)) hb); clear HO373; clear HO377; clear HO382; clear BK379; clear HB; have HO373 := n0_; have HO377 := n1_; have HO382 := n2_; have HO386 := n3_; have BK379 := n4_; have HB := n5_; clear n0_ n1_ n2_ n3_ n4_ n5_; (try clear hb); (try clear hb2); (try clear hk); (try clear hi); (try clear ho0)) | ((with_reducible refine gate_dst (N := 8) rfl ?_); refine box_event ?hg (N := 8) ?hd (cs := #[.int .i64 0, .slice none 0 0]) (t := 27) ?hr ?_; (case hd => rfl); (case hg => rfl); (case hr => first | (go_simp; done) | (go_simp; rfl)); intro gb388 hg w18 hbox hb; have n0_ := Aside0.mk (Kd.R_below (by (with_reducible repeat (first | apply Kd.R_alloc | apply Kd.R_drewN | apply Kd.R_drew)); exact HO373.out) hb); have n1_ := Aside0.mk (Kd.R_below (by (with_reducible repeat (first | apply Kd.R_alloc | apply Kd.R_drewN | apply Kd.R_drew)); exact HO377.out) hb); have n2_ := Aside0.mk (Kd.R_below (by (with_reducible repeat (first | apply Kd.R_alloc | apply Kd.R_drewN | apply Kd.R_drew)); exact HO382.out) hb); have n3_ := Aside0.mk (Kd.R_below (by (with_reducible repeat (first | apply Kd.R_alloc | apply Kd.R_drewN | apply Kd.R_drew)); exact HO386.out) hb); have n4_ := Aside0.mk (blk_below (g := gb379) (o := .cells #[.int .i64 t374, .slice Ao14 t375.length co14] 27 (0, 0)) (by (with_reducible repeat (first | refine blk_drewN ?_ _ | refine blk_drew ?_ | refine blk_alloc ?_ _)); exact BK379.out) hb); have n5_ := Aside0.mk (below_step (by repeat (first | (with_reducible first | exact HB.out | apply below_alloc | apply pw_below_drewN | apply below_drew1 | refine below_set ?_ GE379.out) | exact HB.out)) hb); have n6_ := Aside0.mk (hbox); have n7_ := Aside0.mk ((by rw [hg]; exact (below_size (by repeat (first | (with_reducible first | exact HB.out | apply below_alloc | apply pw_below_drewN | apply below_drew1 | refine below_set ?_ GE379.out) | exact HB.out))) : w.heap.size ≤ gb388)); have n8_ := Aside0.mk ((by rw [hg]; exact (below_size (by repeat (first | (with_reducible first | exact HB.out | apply below_alloc | apply pw_below_drewN | apply below_drew1 | refine below_set ?_ GE379.out) | exact HB.out))) : w.heap.size ≤ gb388)); have n9_ := Aside0.mk ((by rw [hg]; exact Nat.ne_of_lt (blk_lt (g := gb379) (o := .cells #[.int .i64 t374, .slice Ao14 t375.length co14] 27 (0, 0)) (by (with_reducible repeat (first | refine blk_drewN ?_ _ | refine blk_drew ?_ | refine blk_alloc ?_ _)); exact BK379.out)) : gb379 ≠ gb388)); have n10_ := Aside0.mk ((by rw [hg]; exact Nat.ne_of_gt (blk_lt (g := gb379) (o := .cells #[.int .i64 t374, .slice Ao14 t375.length co14] 27 (0, 0)) (by (with_reducible repeat (first | refine blk_drewN ?_ _ | refine blk_drew ?_ | refine blk_alloc ?_ _)); exact BK379.out)) : gb388 ≠ gb379)); clear HO373; clear HO377; clear HO382; clear HO386; clear BK379; clear HB; have HO373 := n0_; have HO377 := n1_; have HO382 := n2_; have HO386 := n3_; have BK379 := n4_; have HB := n5_; have BK388 := n6_; have GW388 := n7_; have GE388 := n8_; have NB379_388 := n9_; have NB388_379 := n10_; clear n0_ n1_ n2_ n3_ n4_ n5_ n6_ n7_ n8_ n9_ n10_; clear hb hbox hg; have hnb19 := NB388_379.out; have hnc19 := NB379_388.out; have hcz20_0 : w18.cell? ⟨gb388, 0, none⟩ = some (.int .i64 0) := (blk_cell BK388.out 0).trans rfl; have hcz20_1 : w18.cell? ⟨gb388, 1, none⟩ = some (.slice none 0 0) := (blk_cell BK388.out 1).trans rfl; have hfz20_0 := blk_frozen BK388.out 0; have hfz20_1 := blk_frozen BK388.out 1; obtain ⟨Ao21, co21, eo21⟩ := Kd.R_slice HO386.out; subst eo21))
    (try simp only [Act.put, List.setIfInBounds_toArray, List.set_cons_zero, List.set_cons_succ])
    go_cut [41] (fun v41 wc => ∃ (kq : Nat) (x41_7 : Bool), v41 = .bool x41_7 ∧ Aside0 (laws_FnExactFromIndependent.j0 kq a0 l1 t378 t380 t387 x41_7 t374 t375 t383 t384 = some r) ∧ Aside0 (kq ≤ k) ∧ Aside0 (Kd.R (Kd.int .i64) 3 wc w.heap.size (fun k_ => some k_ ≠ ((.slice Ao14 t375.length co14) : Value).ownBlock ∧ some k_ ≠ ((.slice Ao21 t384.length co21) : Value).ownBlock) (.slice Ao16 t380.length co16) t380) ∧ Aside0 (Kd.R (Kd.int .i64) 3 wc w.heap.size (fun k_ => some k_ ≠ ((.slice Ao16 t380.length co16) : Value).ownBlock ∧ some k_ ≠ ((.slice Ao21 t384.length co21) : Value).ownBlock) (.slice Ao14 t375.length co14) t375) ∧ Aside0 (Kd.R (Kd.int .i64) 3 wc w.heap.size (fun k_ => some k_ ≠ ((.slice Ao16 t380.length co16) : Value).ownBlock ∧ some k_ ≠ ((.slice Ao14 t375.length co14) : Value).ownBlock) (.slice Ao21 t384.length co21) t384) ∧ Aside0 (wc.heap[gb379]? = some (.cells #[.int .i64 t374, (.slice Ao14 t375.length co14)] 27 (0, 0))) ∧ Aside0 (wc.heap[gb388]? = some (.cells #[.int .i64 t383, (.slice Ao21 t384.length co21)] 27 (0, 0))) ∧ Aside0 (Below w.heap.size w wc))
    case first =>
      have H := HC8.out
      clear HC8
      replace H := Option.bind_eq_some_iff.mp H
      obtain ⟨t389, A220, H⟩ := H
      replace H : (if t389 = true then (laws_FnExactFromIndependent.j0 k a0 l1 t378 t380 t387 (t387 != t378) t374 t375 t383 t384) else (laws_FnExactFromIndependent.j0 k a0 l1 t378 t380 t387 true t374 t375 t383 t384)) = some r := H
      have A22 := Aside0.mk A220
      clear A220
      by_cases c23 : t389 = true
      · subst c23
        have H1 : (laws_FnExactFromIndependent.j0 k a0 l1 t378 t380 t387 (t387 != t378) t374 t375 t383 t384) = some r := by rw [if_pos rfl] at H; exact H
        clear H
        have H := H1
        clear H1
        have H' := Aside0.mk H
        clear H
        have hnb24 := NB388_379.out
        have hnc24 := NB379_388.out
        have hcz25_0 : w18.cell? ⟨gb388, 0, none⟩ = some (.int .i64 0) := (blk_cell BK388.out 0).trans rfl
        have hcz25_1 : w18.cell? ⟨gb388, 1, none⟩ = some (.slice none 0 0) := (blk_cell BK388.out 1).trans rfl
        have hfz25_0 := blk_frozen BK388.out 0
        have hfz25_1 := blk_frozen BK388.out 1
        have hcz26_0 : w18.cell? ⟨gb379, 0, none⟩ = some (.int .i64 t374) := (blk_cell BK379.out 0).trans rfl
        have hcz26_1 : w18.cell? ⟨gb379, 1, none⟩ = some (.slice Ao14 t375.length co14) := (blk_cell BK379.out 1).trans rfl
        have hfz26_0 := blk_frozen BK379.out 0
        have hfz26_1 := blk_frozen BK379.out 1
        go_wp2_with (first | ((with_reducible refine gate_callee (f := 16) rfl ?_); refine goesL_ (some 35) rfl rfl Try.func16 (by kernel_rfl) rfl #[.agg #[.int .i64 t383, .slice Ao21 t384.length co21], .agg #[.int .i64 t374, .slice Ao14 t375.length co14]] rfl (by (try simp only [List.map_toArray, List.map_cons, List.map_nil]); first | done | rfl | (simp only [List.length_drop, List.length_take]; rfl)) ?_; (with_reducible refine (laws_eqMatroid.calls k t383 _ _ t384 t374 _ _ t375 true _ ?side1 ?side2 ?side3 ?side4 A22.out).mono ?_); (case side1 => refine (Kd.R_reads' (e := 3) (base := w.heap.size) (ok := fun k_ => (((True ∧ some k_ ≠ (.slice Ao10 t371.length co10 : Value).ownBlock) ∧ some k_ ≠ (.slice Ao14 t375.length co14 : Value).ownBlock) ∧ some k_ ≠ (.slice Ao16 t380.length co16 : Value).ownBlock)) (n := t384.length) (c := co21) ?_).2.2; exact (by (with_reducible repeat (first | apply Kd.R_alloc | apply Kd.R_drewN | apply Kd.R_drew)); exact (Kd.R_mono (Kd.R_far (p := ⟨gb388, 1, none⟩) (Kd.R_far (p := ⟨gb388, 0, none⟩) (Kd.R_types HO386.out BK388.out (by decide)) (fun _ hk => hk.2) (.int .i64 t383)) (fun _ hk => hk.2) (.slice Ao21 t384.length co21)) (fun _ h_ => h_.1)))); (case side2 => exact (Kd.R_reads' HO386.out).2.1); (case side3 => refine (Kd.R_reads' (e := 3) (base := w.heap.size) (ok := fun k_ => (((True ∧ some k_ ≠ (.slice Ao10 t371.length co10 : Value).ownBlock) ∧ some k_ ≠ (.slice Ao16 t380.length co16 : Value).ownBlock) ∧ some k_ ≠ (.slice Ao21 t384.length co21 : Value).ownBlock)) (n := t375.length) (c := co14) ?_).2.2; exact (by (with_reducible repeat (first | apply Kd.R_alloc | apply Kd.R_drewN | apply Kd.R_drew)); exact (Kd.R_mono (Kd.R_far (p := ⟨gb388, 1, none⟩) (Kd.R_far (p := ⟨gb388, 0, none⟩) (Kd.R_types HO377.out BK388.out (by decide)) (fun _ hk => hk.2) (.int .i64 t383)) (fun _ hk => hk.2) (.slice Ao21 t384.length co21)) (fun _ h_ => h_.1)))); (case side4 => exact (Kd.R_reads' HO377.out).2.1); rintro e w27 ⟨rfl, hb⟩; refine ⟨_, rfl, ?_⟩; have n0_ := Aside0.mk (Kd.R_below (by (with_reducible repeat (first | apply Kd.R_alloc | apply Kd.R_drewN | apply Kd.R_drew)); exact (Kd.R_mono (Kd.R_far (p := ⟨gb388, 1, none⟩) (Kd.R_far (p := ⟨gb388, 0, none⟩) (Kd.R_types HO373.out BK388.out (by decide)) (fun _ hk => hk.2) (.int .i64 t383)) (fun _ hk => hk.2) (.slice Ao21 t384.length co21)) (fun _ h_ => h_.1))) hb); have n1_ := Aside0.mk (Kd.R_below (by (with_reducible repeat (first | apply Kd.R_alloc | apply Kd.R_drewN | apply Kd.R_drew)); exact (Kd.R_mono (Kd.R_far (p := ⟨gb388, 1, none⟩) (Kd.R_far (p := ⟨gb388, 0, none⟩) (Kd.R_types HO377.out BK388.out (by decide)) (fun _ hk => hk.2) (.int .i64 t383)) (fun _ hk => hk.2) (.slice Ao21 t384.length co21)) (fun _ h_ => h_.1))) hb); have n2_ := Aside0.mk (Kd.R_below (by (with_reducible repeat (first | apply Kd.R_alloc | apply Kd.R_drewN | apply Kd.R_drew)); exact (Kd.R_mono (Kd.R_far (p := ⟨gb388, 1, none⟩) (Kd.R_far (p := ⟨gb388, 0, none⟩) (Kd.R_types HO382.out BK388.out (by decide)) (fun _ hk => hk.2) (.int .i64 t383)) (fun _ hk => hk.2) (.slice Ao21 t384.length co21)) (fun _ h_ => h_.1))) hb); have n3_ := Aside0.mk (Kd.R_below (by (with_reducible repeat (first | apply Kd.R_alloc | apply Kd.R_drewN | apply Kd.R_drew)); exact (Kd.R_mono (Kd.R_far (p := ⟨gb388, 1, none⟩) (Kd.R_far (p := ⟨gb388, 0, none⟩) (Kd.R_types HO386.out BK388.out (by decide)) (fun _ hk => hk.2) (.int .i64 t383)) (fun _ hk => hk.2) (.slice Ao21 t384.length co21)) (fun _ h_ => h_.1))) hb); have n4_ := Aside0.mk (blk_below (g := gb379) (o := .cells #[.int .i64 t374, .slice Ao14 t375.length co14] 27 (0, 0)) (by (with_reducible repeat (first | refine blk_drewN ?_ _ | refine blk_drew ?_ | refine blk_alloc ?_ _)); refine blk_far ?_ NB379_388.out _; (with_reducible repeat (first | refine blk_drewN ?_ _ | refine blk_drew ?_ | refine blk_alloc ?_ _)); refine blk_far ?_ NB379_388.out _; (with_reducible repeat (first | refine blk_drewN ?_ _ | refine blk_drew ?_ | refine blk_alloc ?_ _)); exact BK379.out) hb); have n5_ := Aside0.mk (blk_below (g := gb388) (o := .cells #[.int .i64 t383, .slice Ao21 t384.length co21] 27 (0, 0)) (by (with_reducible repeat (first | refine blk_drewN ?_ _ | refine blk_drew ?_ | refine blk_alloc ?_ _)); refine blk_put (cs := #[.int .i64 t383, .slice none 0 0]) ?_ 1 _ rfl; (with_reducible repeat (first | refine blk_drewN ?_ _ | refine blk_drew ?_ | refine blk_alloc ?_ _)); refine blk_put (cs := #[.int .i64 0, .slice none 0 0]) ?_ 0 _ rfl; (with_reducible repeat (first | refine blk_drewN ?_ _ | refine blk_drew ?_ | refine blk_alloc ?_ _)); exact BK388.out) hb); have n6_ := Aside0.mk (below_step (by repeat (first | (with_reducible first | exact HB.out | apply below_alloc | apply pw_below_drewN | apply below_drew1 | refine below_set ?_ GE379.out | refine below_set ?_ GE388.out) | exact HB.out)) hb); clear HO373; clear HO377; clear HO382; clear HO386; clear BK379; clear BK388; clear HB; have HO373 := n0_; have HO377 := n1_; have HO382 := n2_; have HO386 := n3_; have BK379 := n4_; have BK388 := n5_; have HB := n6_; clear n0_ n1_ n2_ n3_ n4_ n5_ n6_; (try clear hb); (try clear hb2); (try clear hk); (try clear hi)))
        go_meet
        case rel => exact ⟨_, ((t387 != t378)), (by first | rfl | (simp; done) | (simp [*]; done)), H', ⟨by first | omega | exact Nat.le_refl _⟩, ⟨by (with_reducible repeat (first | apply Kd.R_alloc | apply Kd.R_drewN | apply Kd.R_drew)); exact Kd.R_mono HO382.out (fun _ hk => by first | exact ⟨hk.1.2, hk.2⟩ | (refine ⟨?_, ?_⟩ <;> intro e_ <;> simp only [e_, ne_eq, not_true_eq_false, and_false, false_and] at hk))⟩, ⟨by (with_reducible repeat (first | apply Kd.R_alloc | apply Kd.R_drewN | apply Kd.R_drew)); exact Kd.R_mono HO377.out (fun _ hk => by first | exact ⟨hk.1.2, hk.2⟩ | (refine ⟨?_, ?_⟩ <;> intro e_ <;> simp only [e_, ne_eq, not_true_eq_false, and_false, false_and] at hk))⟩, ⟨by (with_reducible repeat (first | apply Kd.R_alloc | apply Kd.R_drewN | apply Kd.R_drew)); exact Kd.R_mono HO386.out (fun _ hk => by first | exact ⟨hk.2, hk.1.2⟩ | (refine ⟨?_, ?_⟩ <;> intro e_ <;> simp only [e_, ne_eq, not_true_eq_false, and_false, false_and] at hk))⟩, ⟨by (with_reducible repeat (first | refine blk_drewN ?_ _ | refine blk_drew ?_ | refine blk_alloc ?_ _)); exact BK379.out⟩, ⟨by (with_reducible repeat (first | refine blk_drewN ?_ _ | refine blk_drew ?_ | refine blk_alloc ?_ _)); exact BK388.out⟩, ⟨by repeat (first | (with_reducible first | exact HB.out | apply below_alloc | apply pw_below_drewN | apply below_drew1 | refine below_set ?_ GE379.out | refine below_set ?_ GE388.out) | exact HB.out)⟩⟩
      · replace c23 := Bool.eq_false_iff.mpr c23
        subst c23
        have H1 : (laws_FnExactFromIndependent.j0 k a0 l1 t378 t380 t387 true t374 t375 t383 t384) = some r := by rw [if_neg (show ¬ (false = true) by decide)] at H; exact H
        clear H
        have H := H1
        clear H1
        have H' := Aside0.mk H
        clear H
        have hnb28 := NB388_379.out
        have hnc28 := NB379_388.out
        have hcz29_0 : w18.cell? ⟨gb388, 0, none⟩ = some (.int .i64 0) := (blk_cell BK388.out 0).trans rfl
        have hcz29_1 : w18.cell? ⟨gb388, 1, none⟩ = some (.slice none 0 0) := (blk_cell BK388.out 1).trans rfl
        have hfz29_0 := blk_frozen BK388.out 0
        have hfz29_1 := blk_frozen BK388.out 1
        have hcz30_0 : w18.cell? ⟨gb379, 0, none⟩ = some (.int .i64 t374) := (blk_cell BK379.out 0).trans rfl
        have hcz30_1 : w18.cell? ⟨gb379, 1, none⟩ = some (.slice Ao14 t375.length co14) := (blk_cell BK379.out 1).trans rfl
        have hfz30_0 := blk_frozen BK379.out 0
        have hfz30_1 := blk_frozen BK379.out 1
        go_wp2_with (first | ((with_reducible refine gate_callee (f := 16) rfl ?_); refine goesL_ (some 35) rfl rfl Try.func16 (by kernel_rfl) rfl #[.agg #[.int .i64 t383, .slice Ao21 t384.length co21], .agg #[.int .i64 t374, .slice Ao14 t375.length co14]] rfl (by (try simp only [List.map_toArray, List.map_cons, List.map_nil]); first | done | rfl | (simp only [List.length_drop, List.length_take]; rfl)) ?_; (with_reducible refine (laws_eqMatroid.calls k t383 _ _ t384 t374 _ _ t375 false _ ?side1 ?side2 ?side3 ?side4 A22.out).mono ?_); (case side1 => refine (Kd.R_reads' (e := 3) (base := w.heap.size) (ok := fun k_ => (((True ∧ some k_ ≠ (.slice Ao10 t371.length co10 : Value).ownBlock) ∧ some k_ ≠ (.slice Ao14 t375.length co14 : Value).ownBlock) ∧ some k_ ≠ (.slice Ao16 t380.length co16 : Value).ownBlock)) (n := t384.length) (c := co21) ?_).2.2; exact (by (with_reducible repeat (first | apply Kd.R_alloc | apply Kd.R_drewN | apply Kd.R_drew)); exact (Kd.R_mono (Kd.R_far (p := ⟨gb388, 1, none⟩) (Kd.R_far (p := ⟨gb388, 0, none⟩) (Kd.R_types HO386.out BK388.out (by decide)) (fun _ hk => hk.2) (.int .i64 t383)) (fun _ hk => hk.2) (.slice Ao21 t384.length co21)) (fun _ h_ => h_.1)))); (case side2 => exact (Kd.R_reads' HO386.out).2.1); (case side3 => refine (Kd.R_reads' (e := 3) (base := w.heap.size) (ok := fun k_ => (((True ∧ some k_ ≠ (.slice Ao10 t371.length co10 : Value).ownBlock) ∧ some k_ ≠ (.slice Ao16 t380.length co16 : Value).ownBlock) ∧ some k_ ≠ (.slice Ao21 t384.length co21 : Value).ownBlock)) (n := t375.length) (c := co14) ?_).2.2; exact (by (with_reducible repeat (first | apply Kd.R_alloc | apply Kd.R_drewN | apply Kd.R_drew)); exact (Kd.R_mono (Kd.R_far (p := ⟨gb388, 1, none⟩) (Kd.R_far (p := ⟨gb388, 0, none⟩) (Kd.R_types HO377.out BK388.out (by decide)) (fun _ hk => hk.2) (.int .i64 t383)) (fun _ hk => hk.2) (.slice Ao21 t384.length co21)) (fun _ h_ => h_.1)))); (case side4 => exact (Kd.R_reads' HO377.out).2.1); rintro e w31 ⟨rfl, hb⟩; refine ⟨_, rfl, ?_⟩; have n0_ := Aside0.mk (Kd.R_below (by (with_reducible repeat (first | apply Kd.R_alloc | apply Kd.R_drewN | apply Kd.R_drew)); exact (Kd.R_mono (Kd.R_far (p := ⟨gb388, 1, none⟩) (Kd.R_far (p := ⟨gb388, 0, none⟩) (Kd.R_types HO373.out BK388.out (by decide)) (fun _ hk => hk.2) (.int .i64 t383)) (fun _ hk => hk.2) (.slice Ao21 t384.length co21)) (fun _ h_ => h_.1))) hb); have n1_ := Aside0.mk (Kd.R_below (by (with_reducible repeat (first | apply Kd.R_alloc | apply Kd.R_drewN | apply Kd.R_drew)); exact (Kd.R_mono (Kd.R_far (p := ⟨gb388, 1, none⟩) (Kd.R_far (p := ⟨gb388, 0, none⟩) (Kd.R_types HO377.out BK388.out (by decide)) (fun _ hk => hk.2) (.int .i64 t383)) (fun _ hk => hk.2) (.slice Ao21 t384.length co21)) (fun _ h_ => h_.1))) hb); have n2_ := Aside0.mk (Kd.R_below (by (with_reducible repeat (first | apply Kd.R_alloc | apply Kd.R_drewN | apply Kd.R_drew)); exact (Kd.R_mono (Kd.R_far (p := ⟨gb388, 1, none⟩) (Kd.R_far (p := ⟨gb388, 0, none⟩) (Kd.R_types HO382.out BK388.out (by decide)) (fun _ hk => hk.2) (.int .i64 t383)) (fun _ hk => hk.2) (.slice Ao21 t384.length co21)) (fun _ h_ => h_.1))) hb); have n3_ := Aside0.mk (Kd.R_below (by (with_reducible repeat (first | apply Kd.R_alloc | apply Kd.R_drewN | apply Kd.R_drew)); exact (Kd.R_mono (Kd.R_far (p := ⟨gb388, 1, none⟩) (Kd.R_far (p := ⟨gb388, 0, none⟩) (Kd.R_types HO386.out BK388.out (by decide)) (fun _ hk => hk.2) (.int .i64 t383)) (fun _ hk => hk.2) (.slice Ao21 t384.length co21)) (fun _ h_ => h_.1))) hb); have n4_ := Aside0.mk (blk_below (g := gb379) (o := .cells #[.int .i64 t374, .slice Ao14 t375.length co14] 27 (0, 0)) (by (with_reducible repeat (first | refine blk_drewN ?_ _ | refine blk_drew ?_ | refine blk_alloc ?_ _)); refine blk_far ?_ NB379_388.out _; (with_reducible repeat (first | refine blk_drewN ?_ _ | refine blk_drew ?_ | refine blk_alloc ?_ _)); refine blk_far ?_ NB379_388.out _; (with_reducible repeat (first | refine blk_drewN ?_ _ | refine blk_drew ?_ | refine blk_alloc ?_ _)); exact BK379.out) hb); have n5_ := Aside0.mk (blk_below (g := gb388) (o := .cells #[.int .i64 t383, .slice Ao21 t384.length co21] 27 (0, 0)) (by (with_reducible repeat (first | refine blk_drewN ?_ _ | refine blk_drew ?_ | refine blk_alloc ?_ _)); refine blk_put (cs := #[.int .i64 t383, .slice none 0 0]) ?_ 1 _ rfl; (with_reducible repeat (first | refine blk_drewN ?_ _ | refine blk_drew ?_ | refine blk_alloc ?_ _)); refine blk_put (cs := #[.int .i64 0, .slice none 0 0]) ?_ 0 _ rfl; (with_reducible repeat (first | refine blk_drewN ?_ _ | refine blk_drew ?_ | refine blk_alloc ?_ _)); exact BK388.out) hb); have n6_ := Aside0.mk (below_step (by repeat (first | (with_reducible first | exact HB.out | apply below_alloc | apply pw_below_drewN | apply below_drew1 | refine below_set ?_ GE379.out | refine below_set ?_ GE388.out) | exact HB.out)) hb); clear HO373; clear HO377; clear HO382; clear HO386; clear BK379; clear BK388; clear HB; have HO373 := n0_; have HO377 := n1_; have HO382 := n2_; have HO386 := n3_; have BK379 := n4_; have BK388 := n5_; have HB := n6_; clear n0_ n1_ n2_ n3_ n4_ n5_ n6_; (try clear hb); (try clear hb2); (try clear hk); (try clear hi)))
        go_meet
        case rel => exact ⟨_, (true), (by first | rfl | (simp; done) | (simp [*]; done)), H', ⟨by first | omega | exact Nat.le_refl _⟩, ⟨by (with_reducible repeat (first | apply Kd.R_alloc | apply Kd.R_drewN | apply Kd.R_drew)); exact Kd.R_mono HO382.out (fun _ hk => by first | exact ⟨hk.1.2, hk.2⟩ | (refine ⟨?_, ?_⟩ <;> intro e_ <;> simp only [e_, ne_eq, not_true_eq_false, and_false, false_and] at hk))⟩, ⟨by (with_reducible repeat (first | apply Kd.R_alloc | apply Kd.R_drewN | apply Kd.R_drew)); exact Kd.R_mono HO377.out (fun _ hk => by first | exact ⟨hk.1.2, hk.2⟩ | (refine ⟨?_, ?_⟩ <;> intro e_ <;> simp only [e_, ne_eq, not_true_eq_false, and_false, false_and] at hk))⟩, ⟨by (with_reducible repeat (first | apply Kd.R_alloc | apply Kd.R_drewN | apply Kd.R_drew)); exact Kd.R_mono HO386.out (fun _ hk => by first | exact ⟨hk.2, hk.1.2⟩ | (refine ⟨?_, ?_⟩ <;> intro e_ <;> simp only [e_, ne_eq, not_true_eq_false, and_false, false_and] at hk))⟩, ⟨by (with_reducible repeat (first | refine blk_drewN ?_ _ | refine blk_drew ?_ | refine blk_alloc ?_ _)); exact BK379.out⟩, ⟨by (with_reducible repeat (first | refine blk_drewN ?_ _ | refine blk_drew ?_ | refine blk_alloc ?_ _)); exact BK388.out⟩, ⟨by repeat (first | (with_reducible first | exact HB.out | apply below_alloc | apply pw_below_drewN | apply below_drew1 | refine below_set ?_ GE379.out | refine below_set ?_ GE388.out) | exact HB.out)⟩⟩
    case rest =>
      clear HC8
      try clear c1
      try clear c2
      try clear p2
      try clear c3
      try clear c3b0
      try clear c3b1
      try clear c4
      try clear c16
      try clear c19
      try clear c20
      try clear c21
      try clear c22
      try clear c23
      try clear c24
      try clear c28
      try clear hcz13_0
      try clear hcz13_1
      try clear hcz20_0
      try clear hcz20_1
      try clear hcz25_0
      try clear hcz25_1
      try clear hcz26_0
      try clear hcz26_1
      try clear hcz29_0
      try clear hcz29_1
      try clear hcz30_0
      try clear hcz30_1
      try clear hfz13_0
      try clear hfz13_1
      try clear hfz20_0
      try clear hfz20_1
      try clear hfz25_0
      try clear hfz25_1
      try clear hfz26_0
      try clear hfz26_1
      try clear hfz29_0
      try clear hfz29_1
      try clear hfz30_0
      try clear hfz30_1
      obtain ⟨kq, x41_7, rfl, HA, HJ7, HO_7, HO_380001, HO_389001, BK379, BK388, HB⟩ := hcut
      cases kq with
      | zero => exact absurd HA.out (by simp [laws_FnExactFromIndependent.j0])
      | succ kj7 =>
        have H := HA.out
        clear HA
        simp only [laws_FnExactFromIndependent.j0] at H
        by_cases c32 : x41_7 = true
        · subst c32
          have H1 : (none) = some r := by rw [if_pos rfl] at H; exact H
          clear H
          have H := H1
          clear H1
          exact absurd H (by simp)
        · replace c32 := Bool.eq_false_iff.mpr c32
          subst c32
          have H1 : ((laws_toIntS.f kj7 l1).bind fun t390 => ((laws_eqIntS.f kj7 t380 t390).bind fun t393 => (if t393 = true then ((laws_markIntS.f kj7 t380 1).bind fun bt394 => (if bt394.1 < 0 then (laws_FnExactFromIndependent.j1 kj7 a0 l1 t378 true t374 t375 t383 t384) else ((laws_eqMatroid.f kj7 t383 t384 t374 t375).bind fun t396 => (if t396 = true then (laws_FnExactFromIndependent.j1 kj7 a0 l1 t378 (t387 != t378) t374 t375 t383 t384) else (laws_FnExactFromIndependent.j1 kj7 a0 l1 t378 true t374 t375 t383 t384))))) else (none)))) = some r := by rw [if_neg (show ¬ (false = true) by decide)] at H; exact H
          clear H
          have H := H1
          clear H1
          replace H := Option.bind_eq_some_iff.mp H
          obtain ⟨t390, A330, H⟩ := H
          replace H : ((laws_eqIntS.f kj7 t380 t390).bind fun t393 => (if t393 = true then ((laws_markIntS.f kj7 t380 1).bind fun bt394 => (if bt394.1 < 0 then (laws_FnExactFromIndependent.j1 kj7 a0 l1 t378 true t374 t375 t383 t384) else ((laws_eqMatroid.f kj7 t383 t384 t374 t375).bind fun t396 => (if t396 = true then (laws_FnExactFromIndependent.j1 kj7 a0 l1 t378 (t387 != t378) t374 t375 t383 t384) else (laws_FnExactFromIndependent.j1 kj7 a0 l1 t378 true t374 t375 t383 t384))))) else (none))) = some r := H
          have A33 := Aside0.mk A330
          clear A330
          replace H := Option.bind_eq_some_iff.mp H
          obtain ⟨t393, A340, H⟩ := H
          replace H : (if t393 = true then ((laws_markIntS.f kj7 t380 1).bind fun bt394 => (if bt394.1 < 0 then (laws_FnExactFromIndependent.j1 kj7 a0 l1 t378 true t374 t375 t383 t384) else ((laws_eqMatroid.f kj7 t383 t384 t374 t375).bind fun t396 => (if t396 = true then (laws_FnExactFromIndependent.j1 kj7 a0 l1 t378 (t387 != t378) t374 t375 t383 t384) else (laws_FnExactFromIndependent.j1 kj7 a0 l1 t378 true t374 t375 t383 t384))))) else (none)) = some r := H
          have A34 := Aside0.mk A340
          clear A340
          by_cases c35 : t393 = true
          · subst c35
            have H1 : ((laws_markIntS.f kj7 t380 1).bind fun bt394 => (if bt394.1 < 0 then (laws_FnExactFromIndependent.j1 kj7 a0 l1 t378 true t374 t375 t383 t384) else ((laws_eqMatroid.f kj7 t383 t384 t374 t375).bind fun t396 => (if t396 = true then (laws_FnExactFromIndependent.j1 kj7 a0 l1 t378 (t387 != t378) t374 t375 t383 t384) else (laws_FnExactFromIndependent.j1 kj7 a0 l1 t378 true t374 t375 t383 t384))))) = some r := by rw [if_pos rfl] at H; exact H
            clear H
            have H := H1
            clear H1
            replace H := Option.bind_eq_some_iff.mp H
            obtain ⟨⟨t394, t395⟩, A360, H⟩ := H
            replace H : (if t394 < 0 then (laws_FnExactFromIndependent.j1 kj7 a0 l1 t378 true t374 t375 t383 t384) else ((laws_eqMatroid.f kj7 t383 t384 t374 t375).bind fun t396 => (if t396 = true then (laws_FnExactFromIndependent.j1 kj7 a0 l1 t378 (t387 != t378) t374 t375 t383 t384) else (laws_FnExactFromIndependent.j1 kj7 a0 l1 t378 true t374 t375 t383 t384)))) = some r := H
            have A36 := Aside0.mk A360
            clear A360
            have HC37 := Aside0.mk H
            clear H
            go_upto_region 12 with (first | ((with_reducible refine gate_callee (f := 21) rfl ?_); refine goesL_ (some 44) rfl rfl Try.func21 (by kernel_rfl) rfl #[.slice A1 l1.length c1] rfl (by (try simp only [List.map_toArray, List.map_cons, List.map_nil]); first | done | rfl | (simp only [List.length_drop, List.length_take]; rfl)) ?_; (with_reducible refine (laws_toIntS.calls kj7 _ _ l1 t390 _ ?side1 ?side2 A33.out).mono ?_); (case side1 => repeat (first | exact (Kd.C_below HR1.out HB.out) | (with_reducible refine Kd.C_alloc ?_ _) | (with_reducible refine Kd.C_drewN ?_ _) | (with_reducible refine Kd.C_drew ?_))); (case side2 => exact HC1.out); rintro e w38 ⟨v391, rfl, ho0, hb⟩; refine ⟨_, rfl, ?_⟩; have n0_ := Aside0.mk (Kd.R_elder' (by (with_reducible repeat (first | apply Kd.R_alloc | apply Kd.R_drewN | apply Kd.R_drew)); exact HO_7.out) (Kd.R_base ho0) hb); have n1_ := Aside0.mk (Kd.R_elder' (by (with_reducible repeat (first | apply Kd.R_alloc | apply Kd.R_drewN | apply Kd.R_drew)); exact HO_380001.out) (Kd.R_base ho0) hb); have n2_ := Aside0.mk (Kd.R_elder' (by (with_reducible repeat (first | apply Kd.R_alloc | apply Kd.R_drewN | apply Kd.R_drew)); exact HO_389001.out) (Kd.R_base ho0) hb); have n3_ := Aside0.mk (Kd.R_lower (Kd.R_new' (Kd.R_new' (Kd.R_new' ho0 (Kd.R_lt (by (with_reducible repeat (first | apply Kd.R_alloc | apply Kd.R_drewN | apply Kd.R_drew)); exact HO_7.out))) (Kd.R_lt (by (with_reducible repeat (first | apply Kd.R_alloc | apply Kd.R_drewN | apply Kd.R_drew)); exact HO_380001.out))) (Kd.R_lt (by (with_reducible repeat (first | apply Kd.R_alloc | apply Kd.R_drewN | apply Kd.R_drew)); exact HO_389001.out))) (below_size (by repeat (first | (with_reducible first | exact HB.out | apply below_alloc | apply pw_below_drewN | apply below_drew1 | refine below_set ?_ GE379.out | refine below_set ?_ GE388.out) | exact HB.out)))); have n4_ := Aside0.mk (blk_below (g := gb379) (o := .cells #[.int .i64 t374, .slice Ao14 t375.length co14] 27 (0, 0)) (by (with_reducible repeat (first | refine blk_drewN ?_ _ | refine blk_drew ?_ | refine blk_alloc ?_ _)); exact BK379.out) hb); have n5_ := Aside0.mk (blk_below (g := gb388) (o := .cells #[.int .i64 t383, .slice Ao21 t384.length co21] 27 (0, 0)) (by (with_reducible repeat (first | refine blk_drewN ?_ _ | refine blk_drew ?_ | refine blk_alloc ?_ _)); exact BK388.out) hb); have n6_ := Aside0.mk (below_step (by repeat (first | (with_reducible first | exact HB.out | apply below_alloc | apply pw_below_drewN | apply below_drew1 | refine below_set ?_ GE379.out | refine below_set ?_ GE388.out) | exact HB.out)) hb); clear HO_7; clear HO_380001; clear HO_389001; clear BK379; clear BK388; clear HB; have HO_7 := n0_; have HO_380001 := n1_; have HO_389001 := n2_; have HO392 := n3_; have BK379 := n4_; have BK388 := n5_; have HB := n6_; clear n0_ n1_ n2_ n3_ n4_ n5_ n6_; (try clear hb); (try clear hb2); (try clear hk); (try clear hi); (try clear ho0); obtain ⟨Ao39, co39, eo39⟩ := Kd.R_slice HO392.out; subst eo39) | ((with_reducible refine gate_callee (f := 15) rfl ?_); refine goesL_ (some 45) rfl rfl Try.func15 (by kernel_rfl) rfl #[.slice Ao16 t380.length co16, .slice Ao39 t390.length co39] rfl (by (try simp only [List.map_toArray, List.map_cons, List.map_nil]); first | done | rfl | (simp only [List.length_drop, List.length_take]; rfl)) ?_; (with_reducible refine (laws_eqIntS.calls kj7 _ _ t380 _ _ t390 true _ ?side1 ?side2 ?side3 ?side4 A34.out).mono ?_); (case side1 => repeat (first | exact (Kd.R_reads' HO_7.out).2.2 | (with_reducible refine Kd.C_alloc ?_ _) | (with_reducible refine Kd.C_drewN ?_ _) | (with_reducible refine Kd.C_drew ?_))); (case side2 => exact (Kd.R_reads' HO_7.out).2.1); (case side3 => repeat (first | exact (Kd.R_reads' HO392.out).2.2 | (with_reducible refine Kd.C_alloc ?_ _) | (with_reducible refine Kd.C_drewN ?_ _) | (with_reducible refine Kd.C_drew ?_))); (case side4 => exact (Kd.R_reads' HO392.out).2.1); rintro e w' ⟨rfl, ⟨nd, rfl⟩⟩; refine ⟨_, rfl, ?_⟩) | ((with_reducible refine gate_callee (f := 18) rfl ?_); refine goesL_ (some 49) rfl rfl Try.func18 (by kernel_rfl) rfl #[.slice Ao16 t380.length co16, .int .i64 1] rfl (by (try simp only [List.map_toArray, List.map_cons, List.map_nil]); first | done | rfl | (simp only [List.length_drop, List.length_take]; rfl)) ?_; (with_reducible refine (laws_markIntS.calls kj7 (fun k_ => some k_ = (.slice Ao16 t380.length co16 : Value).ownBlock) (.slice Ao16 t380.length co16) t380 1 t394 t395 w _ ?side1 ?side2 A36.out).mono ?_); (case side1 => repeat (first | (with_reducible first | exact HB.out | apply below_alloc | apply pw_below_drewN | apply below_drew1 | refine below_set ?_ GE379.out | refine below_set ?_ GE388.out) | exact HB.out)); (case side2 => exact Kd.R_tight rfl HO_7.out); rintro e w40 ⟨rfl, hy0, hb, hkp⟩; refine ⟨_, rfl, ?_⟩; have n0_ := Aside0.mk (Kd.R_reok rfl hy0 (fun k_ e_ => HO_7.out.1 k_ e_)); have n1_ := Aside0.mk (Kd.R_mono (ok' := fun k_ => some k_ ≠ (.slice Ao16 t380.length co16 : Value).ownBlock ∧ some k_ ≠ (.slice Ao21 t384.length co21 : Value).ownBlock ∧ some k_ ≠ (.slice Ao39 t390.length co39 : Value).ownBlock) (Kd.R_keptB (HO_380001.out) hkp (fun k_ hk_ hs_ => by first | exact hk_.1.1 hs_ | (have e_ : some k_ = _ := hs_; simp only [e_, ne_eq, not_true_eq_false, and_false, false_and] at hk_))) (fun k_ hk_ => by first | exact ⟨hk_.1.1.1, hk_.1.1.2, hk_.1.2⟩ | (refine ⟨?_, ?_, ?_⟩ <;> intro e_ <;> simp only [e_, ne_eq, not_true_eq_false, and_false, false_and] at hk_))); have n2_ := Aside0.mk (Kd.R_mono (ok' := fun k_ => some k_ ≠ (.slice Ao16 t380.length co16 : Value).ownBlock ∧ some k_ ≠ (.slice Ao14 t375.length co14 : Value).ownBlock ∧ some k_ ≠ (.slice Ao39 t390.length co39 : Value).ownBlock) (Kd.R_keptB (HO_389001.out) hkp (fun k_ hk_ hs_ => by first | exact hk_.1.1 hs_ | (have e_ : some k_ = _ := hs_; simp only [e_, ne_eq, not_true_eq_false, and_false, false_and] at hk_))) (fun k_ hk_ => by first | exact ⟨hk_.1.1.1, hk_.1.1.2, hk_.1.2⟩ | (refine ⟨?_, ?_, ?_⟩ <;> intro e_ <;> simp only [e_, ne_eq, not_true_eq_false, and_false, false_and] at hk_))); have n3_ := Aside0.mk (blk_kept (by (with_reducible repeat (first | refine blk_drewN ?_ _ | refine blk_drew ?_ | refine blk_alloc ?_ _)); exact BK379.out) hkp (fun hs_ => (fun e_ => (Kd.R_ne HO_7.out BK379.out (by decide)) e_) hs_)); have n4_ := Aside0.mk (blk_kept (by (with_reducible repeat (first | refine blk_drewN ?_ _ | refine blk_drew ?_ | refine blk_alloc ?_ _)); exact BK388.out) hkp (fun hs_ => (fun e_ => (Kd.R_ne HO_7.out BK388.out (by decide)) e_) hs_)); have n5_ := Aside0.mk (Kd.R_mono (ok' := fun k_ => some k_ ≠ (.slice Ao16 t380.length co16 : Value).ownBlock ∧ some k_ ≠ (.slice Ao14 t375.length co14 : Value).ownBlock ∧ some k_ ≠ (.slice Ao21 t384.length co21 : Value).ownBlock) (Kd.R_keptB (HO392.out) hkp (fun k_ hk_ hs_ => by first | exact hk_.1.1.2 hs_ | (have e_ : some k_ = _ := hs_; simp only [e_, ne_eq, not_true_eq_false, and_false, false_and] at hk_))) (fun k_ hk_ => by first | exact ⟨hk_.1.1.1.2, hk_.1.1.2, hk_.1.2⟩ | (refine ⟨?_, ?_, ?_⟩ <;> intro e_ <;> simp only [e_, ne_eq, not_true_eq_false, and_false, false_and] at hk_))); have n6_ := Aside0.mk (hb); clear HO_7; clear HO_380001; clear HO_389001; clear BK379; clear BK388; clear HO392; clear HB; have HO_7 := n0_; have HO_380001 := n1_; have HO_389001 := n2_; have BK379 := n3_; have BK388 := n4_; have HO392 := n5_; have HB := n6_; clear n0_ n1_ n2_ n3_ n4_ n5_ n6_; (try clear hb); (try clear hkp); (try clear hy0)))
            (try simp only [Act.put, List.setIfInBounds_toArray, List.set_cons_zero, List.set_cons_succ])
            go_cut [62] (fun v62 wc => ∃ (kq : Nat) (x62_36 : Bool), v62 = .bool x62_36 ∧ Aside0 (laws_FnExactFromIndependent.j1 kq a0 l1 t378 x62_36 t374 t375 t383 t384 = some r) ∧ Aside0 (kq ≤ kj7) ∧ Aside0 (Kd.R (Kd.int .i64) 3 wc w.heap.size (fun k_ => some k_ ≠ ((.slice Ao21 t384.length co21) : Value).ownBlock) (.slice Ao14 t375.length co14) t375) ∧ Aside0 (Kd.R (Kd.int .i64) 3 wc w.heap.size (fun k_ => some k_ ≠ ((.slice Ao14 t375.length co14) : Value).ownBlock) (.slice Ao21 t384.length co21) t384) ∧ Aside0 (wc.heap[gb379]? = some (.cells #[.int .i64 t374, (.slice Ao14 t375.length co14)] 27 (0, 0))) ∧ Aside0 (wc.heap[gb388]? = some (.cells #[.int .i64 t383, (.slice Ao21 t384.length co21)] 27 (0, 0))) ∧ Aside0 (Below w.heap.size w wc))
            case first =>
              have H := HC37.out
              clear HC37
              by_cases c41 : t394 < 0
              · rw [if_pos c41] at H
                have c41b0 : decide (t394 < 0) = true := decide_eq_true c41
                clear c41
                (first | rw [c41b0] | (simp only [i64_w, i32_w]; rw [c41b0]) | skip)
                have H' := Aside0.mk H
                clear H
                go_wp2
                go_meet
                case rel => exact ⟨_, (true), (by first | rfl | (simp; done) | (simp [*]; done)), H', ⟨by have := HJ7.out; first | omega | exact Nat.le_refl _⟩, ⟨by (with_reducible repeat (first | apply Kd.R_alloc | apply Kd.R_drewN | apply Kd.R_drew)); exact Kd.R_mono HO_380001.out (fun _ hk => hk.2.1)⟩, ⟨by (with_reducible repeat (first | apply Kd.R_alloc | apply Kd.R_drewN | apply Kd.R_drew)); exact Kd.R_mono HO_389001.out (fun _ hk => hk.2.1)⟩, ⟨by (with_reducible repeat (first | refine blk_drewN ?_ _ | refine blk_drew ?_ | refine blk_alloc ?_ _)); exact BK379.out⟩, ⟨by (with_reducible repeat (first | refine blk_drewN ?_ _ | refine blk_drew ?_ | refine blk_alloc ?_ _)); exact BK388.out⟩, ⟨by repeat (first | (with_reducible first | exact HB.out | apply below_alloc | apply pw_below_drewN | apply below_drew1 | refine below_set ?_ GE379.out | refine below_set ?_ GE388.out) | exact HB.out)⟩⟩
              · rw [if_neg c41] at H
                have c41b0 : decide (t394 < 0) = false := decide_eq_false c41
                clear c41
                (first | rw [c41b0] | (simp only [i64_w, i32_w]; rw [c41b0]) | skip)
                replace H := Option.bind_eq_some_iff.mp H
                obtain ⟨t396, A420, H⟩ := H
                replace H : (if t396 = true then (laws_FnExactFromIndependent.j1 kj7 a0 l1 t378 (t387 != t378) t374 t375 t383 t384) else (laws_FnExactFromIndependent.j1 kj7 a0 l1 t378 true t374 t375 t383 t384)) = some r := H
                have A42 := Aside0.mk A420
                clear A420
                by_cases c43 : t396 = true
                · subst c43
                  have H1 : (laws_FnExactFromIndependent.j1 kj7 a0 l1 t378 (t387 != t378) t374 t375 t383 t384) = some r := by rw [if_pos rfl] at H; exact H
                  clear H
                  have H := H1
                  clear H1
                  have H' := Aside0.mk H
                  clear H
                  have hnb44 := NB388_379.out
                  have hnc44 := NB379_388.out
                  have hcz45_0 : w40.cell? ⟨gb388, 0, none⟩ = some (.int .i64 t383) := (blk_cell BK388.out 0).trans rfl
                  have hcz45_1 : w40.cell? ⟨gb388, 1, none⟩ = some (.slice Ao21 t384.length co21) := (blk_cell BK388.out 1).trans rfl
                  have hfz45_0 := blk_frozen BK388.out 0
                  have hfz45_1 := blk_frozen BK388.out 1
                  have hcz46_0 : w40.cell? ⟨gb379, 0, none⟩ = some (.int .i64 t374) := (blk_cell BK379.out 0).trans rfl
                  have hcz46_1 : w40.cell? ⟨gb379, 1, none⟩ = some (.slice Ao14 t375.length co14) := (blk_cell BK379.out 1).trans rfl
                  have hfz46_0 := blk_frozen BK379.out 0
                  have hfz46_1 := blk_frozen BK379.out 1
                  go_wp2_with (first | (go_at_call 16; (try simp only [i64_w, i32_w]); (with_reducible refine (laws_eqMatroid.calls kj7 t383 _ _ t384 t374 _ _ t375 true _ ?side1 ?side2 ?side3 ?side4 A42.out).mono ?_); (case side1 => repeat (first | exact (Kd.R_reads' HO_389001.out).2.2 | (with_reducible refine Kd.C_alloc ?_ _) | (with_reducible refine Kd.C_drewN ?_ _) | (with_reducible refine Kd.C_drew ?_))); (case side2 => exact (Kd.R_reads' HO_389001.out).2.1); (case side3 => repeat (first | exact (Kd.R_reads' HO_380001.out).2.2 | (with_reducible refine Kd.C_alloc ?_ _) | (with_reducible refine Kd.C_drewN ?_ _) | (with_reducible refine Kd.C_drew ?_))); (case side4 => exact (Kd.R_reads' HO_380001.out).2.1); rintro e w47 ⟨rfl, hb⟩; have n0_ := Aside0.mk (Kd.R_below (by (with_reducible repeat (first | apply Kd.R_alloc | apply Kd.R_drewN | apply Kd.R_drew)); exact HO_7.out) hb); have n1_ := Aside0.mk (Kd.R_below (by (with_reducible repeat (first | apply Kd.R_alloc | apply Kd.R_drewN | apply Kd.R_drew)); exact HO_380001.out) hb); have n2_ := Aside0.mk (Kd.R_below (by (with_reducible repeat (first | apply Kd.R_alloc | apply Kd.R_drewN | apply Kd.R_drew)); exact HO_389001.out) hb); have n3_ := Aside0.mk (Kd.R_below (by (with_reducible repeat (first | apply Kd.R_alloc | apply Kd.R_drewN | apply Kd.R_drew)); exact HO392.out) hb); have n4_ := Aside0.mk (blk_below (g := gb379) (o := .cells #[.int .i64 t374, .slice Ao14 t375.length co14] 27 (0, 0)) (by (with_reducible repeat (first | refine blk_drewN ?_ _ | refine blk_drew ?_ | refine blk_alloc ?_ _)); exact BK379.out) hb); have n5_ := Aside0.mk (blk_below (g := gb388) (o := .cells #[.int .i64 t383, .slice Ao21 t384.length co21] 27 (0, 0)) (by (with_reducible repeat (first | refine blk_drewN ?_ _ | refine blk_drew ?_ | refine blk_alloc ?_ _)); exact BK388.out) hb); have n6_ := Aside0.mk (below_step (by repeat (first | (with_reducible first | exact HB.out | apply below_alloc | apply pw_below_drewN | apply below_drew1 | refine below_set ?_ GE379.out | refine below_set ?_ GE388.out) | exact HB.out)) hb); clear HO_7; clear HO_380001; clear HO_389001; clear HO392; clear BK379; clear BK388; clear HB; have HO_7 := n0_; have HO_380001 := n1_; have HO_389001 := n2_; have HO392 := n3_; have BK379 := n4_; have BK388 := n5_; have HB := n6_; clear n0_ n1_ n2_ n3_ n4_ n5_ n6_; (try clear hb); (try clear hb2); (try clear hk); (try clear hi)))
                  go_meet
                  case rel => exact ⟨_, ((t387 != t378)), (by first | rfl | (simp; done) | (simp [*]; done)), H', ⟨by have := HJ7.out; first | omega | exact Nat.le_refl _⟩, ⟨by (with_reducible repeat (first | apply Kd.R_alloc | apply Kd.R_drewN | apply Kd.R_drew)); exact Kd.R_mono HO_380001.out (fun _ hk => hk.2.1)⟩, ⟨by (with_reducible repeat (first | apply Kd.R_alloc | apply Kd.R_drewN | apply Kd.R_drew)); exact Kd.R_mono HO_389001.out (fun _ hk => hk.2.1)⟩, ⟨by (with_reducible repeat (first | refine blk_drewN ?_ _ | refine blk_drew ?_ | refine blk_alloc ?_ _)); exact BK379.out⟩, ⟨by (with_reducible repeat (first | refine blk_drewN ?_ _ | refine blk_drew ?_ | refine blk_alloc ?_ _)); exact BK388.out⟩, ⟨by repeat (first | (with_reducible first | exact HB.out | apply below_alloc | apply pw_below_drewN | apply below_drew1 | refine below_set ?_ GE379.out | refine below_set ?_ GE388.out) | exact HB.out)⟩⟩
                · replace c43 := Bool.eq_false_iff.mpr c43
                  subst c43
                  have H1 : (laws_FnExactFromIndependent.j1 kj7 a0 l1 t378 true t374 t375 t383 t384) = some r := by rw [if_neg (show ¬ (false = true) by decide)] at H; exact H
                  clear H
                  have H := H1
                  clear H1
                  have H' := Aside0.mk H
                  clear H
                  have hnb48 := NB388_379.out
                  have hnc48 := NB379_388.out
                  have hcz49_0 : w40.cell? ⟨gb388, 0, none⟩ = some (.int .i64 t383) := (blk_cell BK388.out 0).trans rfl
                  have hcz49_1 : w40.cell? ⟨gb388, 1, none⟩ = some (.slice Ao21 t384.length co21) := (blk_cell BK388.out 1).trans rfl
                  have hfz49_0 := blk_frozen BK388.out 0
                  have hfz49_1 := blk_frozen BK388.out 1
                  have hcz50_0 : w40.cell? ⟨gb379, 0, none⟩ = some (.int .i64 t374) := (blk_cell BK379.out 0).trans rfl
                  have hcz50_1 : w40.cell? ⟨gb379, 1, none⟩ = some (.slice Ao14 t375.length co14) := (blk_cell BK379.out 1).trans rfl
                  have hfz50_0 := blk_frozen BK379.out 0
                  have hfz50_1 := blk_frozen BK379.out 1
                  go_wp2_with (first | (go_at_call 16; (try simp only [i64_w, i32_w]); (with_reducible refine (laws_eqMatroid.calls kj7 t383 _ _ t384 t374 _ _ t375 false _ ?side1 ?side2 ?side3 ?side4 A42.out).mono ?_); (case side1 => repeat (first | exact (Kd.R_reads' HO_389001.out).2.2 | (with_reducible refine Kd.C_alloc ?_ _) | (with_reducible refine Kd.C_drewN ?_ _) | (with_reducible refine Kd.C_drew ?_))); (case side2 => exact (Kd.R_reads' HO_389001.out).2.1); (case side3 => repeat (first | exact (Kd.R_reads' HO_380001.out).2.2 | (with_reducible refine Kd.C_alloc ?_ _) | (with_reducible refine Kd.C_drewN ?_ _) | (with_reducible refine Kd.C_drew ?_))); (case side4 => exact (Kd.R_reads' HO_380001.out).2.1); rintro e w51 ⟨rfl, hb⟩; have n0_ := Aside0.mk (Kd.R_below (by (with_reducible repeat (first | apply Kd.R_alloc | apply Kd.R_drewN | apply Kd.R_drew)); exact HO_7.out) hb); have n1_ := Aside0.mk (Kd.R_below (by (with_reducible repeat (first | apply Kd.R_alloc | apply Kd.R_drewN | apply Kd.R_drew)); exact HO_380001.out) hb); have n2_ := Aside0.mk (Kd.R_below (by (with_reducible repeat (first | apply Kd.R_alloc | apply Kd.R_drewN | apply Kd.R_drew)); exact HO_389001.out) hb); have n3_ := Aside0.mk (Kd.R_below (by (with_reducible repeat (first | apply Kd.R_alloc | apply Kd.R_drewN | apply Kd.R_drew)); exact HO392.out) hb); have n4_ := Aside0.mk (blk_below (g := gb379) (o := .cells #[.int .i64 t374, .slice Ao14 t375.length co14] 27 (0, 0)) (by (with_reducible repeat (first | refine blk_drewN ?_ _ | refine blk_drew ?_ | refine blk_alloc ?_ _)); exact BK379.out) hb); have n5_ := Aside0.mk (blk_below (g := gb388) (o := .cells #[.int .i64 t383, .slice Ao21 t384.length co21] 27 (0, 0)) (by (with_reducible repeat (first | refine blk_drewN ?_ _ | refine blk_drew ?_ | refine blk_alloc ?_ _)); exact BK388.out) hb); have n6_ := Aside0.mk (below_step (by repeat (first | (with_reducible first | exact HB.out | apply below_alloc | apply pw_below_drewN | apply below_drew1 | refine below_set ?_ GE379.out | refine below_set ?_ GE388.out) | exact HB.out)) hb); clear HO_7; clear HO_380001; clear HO_389001; clear HO392; clear BK379; clear BK388; clear HB; have HO_7 := n0_; have HO_380001 := n1_; have HO_389001 := n2_; have HO392 := n3_; have BK379 := n4_; have BK388 := n5_; have HB := n6_; clear n0_ n1_ n2_ n3_ n4_ n5_ n6_; (try clear hb); (try clear hb2); (try clear hk); (try clear hi)))
                  go_meet
                  case rel => exact ⟨_, (true), (by first | rfl | (simp; done) | (simp [*]; done)), H', ⟨by have := HJ7.out; first | omega | exact Nat.le_refl _⟩, ⟨by (with_reducible repeat (first | apply Kd.R_alloc | apply Kd.R_drewN | apply Kd.R_drew)); exact Kd.R_mono HO_380001.out (fun _ hk => hk.2.1)⟩, ⟨by (with_reducible repeat (first | apply Kd.R_alloc | apply Kd.R_drewN | apply Kd.R_drew)); exact Kd.R_mono HO_389001.out (fun _ hk => hk.2.1)⟩, ⟨by (with_reducible repeat (first | refine blk_drewN ?_ _ | refine blk_drew ?_ | refine blk_alloc ?_ _)); exact BK379.out⟩, ⟨by (with_reducible repeat (first | refine blk_drewN ?_ _ | refine blk_drew ?_ | refine blk_alloc ?_ _)); exact BK388.out⟩, ⟨by repeat (first | (with_reducible first | exact HB.out | apply below_alloc | apply pw_below_drewN | apply below_drew1 | refine below_set ?_ GE379.out | refine below_set ?_ GE388.out) | exact HB.out)⟩⟩
            case rest =>
              clear HC37
              try clear c1
              try clear c2
              try clear p2
              try clear c3
              try clear c3b0
              try clear c3b1
              try clear c4
              try clear c15
              try clear c16
              try clear c18
              try clear c19
              try clear c20
              try clear c21
              try clear c22
              try clear c23
              try clear c24
              try clear c28
              try clear c32
              try clear c35
              try clear c41
              try clear c41b0
              try clear c43
              try clear c44
              try clear c48
              try clear hcz13_0
              try clear hcz13_1
              try clear hcz20_0
              try clear hcz20_1
              try clear hcz25_0
              try clear hcz25_1
              try clear hcz26_0
              try clear hcz26_1
              try clear hcz29_0
              try clear hcz29_1
              try clear hcz30_0
              try clear hcz30_1
              try clear hcz45_0
              try clear hcz45_1
              try clear hcz46_0
              try clear hcz46_1
              try clear hcz49_0
              try clear hcz49_1
              try clear hcz50_0
              try clear hcz50_1
              try clear hfz13_0
              try clear hfz13_1
              try clear hfz20_0
              try clear hfz20_1
              try clear hfz25_0
              try clear hfz25_1
              try clear hfz26_0
              try clear hfz26_1
              try clear hfz29_0
              try clear hfz29_1
              try clear hfz30_0
              try clear hfz30_1
              try clear hfz45_0
              try clear hfz45_1
              try clear hfz46_0
              try clear hfz46_1
              try clear hfz49_0
              try clear hfz49_1
              try clear hfz50_0
              try clear hfz50_1
              try clear p2
              obtain ⟨kq, x62_36, rfl, HA, HJ36, HO_380001, HO_389001, BK379, BK388, HB⟩ := hcut
              cases kq with
              | zero => exact absurd HA.out (by simp [laws_FnExactFromIndependent.j1])
              | succ kj36 =>
                have H := HA.out
                clear HA
                simp only [laws_FnExactFromIndependent.j1] at H
                by_cases c52 : x62_36 = true
                · subst c52
                  have H1 : (none) = some r := by rw [if_pos rfl] at H; exact H
                  clear H
                  have H := H1
                  clear H1
                  exact absurd H (by simp)
                · replace c52 := Bool.eq_false_iff.mpr c52
                  subst c52
                  have H1 : ((laws_markMatroid.f kj36 t383 t384 1).bind fun bt397 => ((laws_heldMatroid.f kj36 t383 bt397.2 1).bind fun t399 => (if t399 < 0 then (none) else (if t399 = bt397.1 then ((laws_toIntS.f kj36 l1).bind fun t400 => ((impl_FromIndependent.f kj36 a0 t400).bind fun bt403 => ((laws_eqMatroid.f kj36 bt403.1 bt403.2.1 t374 t375).bind fun t409 => (if t409 = true then (laws_FnExactFromIndependent.j2 kj36 bt397.1 (bt403.2.2 != t378) t383 bt397.2) else (laws_FnExactFromIndependent.j2 kj36 bt397.1 true t383 bt397.2))))) else (none))))) = some r := by rw [if_neg (show ¬ (false = true) by decide)] at H; exact H
                  clear H
                  have H := H1
                  clear H1
                  replace H := Option.bind_eq_some_iff.mp H
                  obtain ⟨⟨t397, t398⟩, A530, H⟩ := H
                  replace H : ((laws_heldMatroid.f kj36 t383 t398 1).bind fun t399 => (if t399 < 0 then (none) else (if t399 = t397 then ((laws_toIntS.f kj36 l1).bind fun t400 => ((impl_FromIndependent.f kj36 a0 t400).bind fun bt403 => ((laws_eqMatroid.f kj36 bt403.1 bt403.2.1 t374 t375).bind fun t409 => (if t409 = true then (laws_FnExactFromIndependent.j2 kj36 t397 (bt403.2.2 != t378) t383 t398) else (laws_FnExactFromIndependent.j2 kj36 t397 true t383 t398))))) else (none)))) = some r := H
                  have A53 := Aside0.mk A530
                  clear A530
                  replace H := Option.bind_eq_some_iff.mp H
                  obtain ⟨t399, A540, H⟩ := H
                  replace H : (if t399 < 0 then (none) else (if t399 = t397 then ((laws_toIntS.f kj36 l1).bind fun t400 => ((impl_FromIndependent.f kj36 a0 t400).bind fun bt403 => ((laws_eqMatroid.f kj36 bt403.1 bt403.2.1 t374 t375).bind fun t409 => (if t409 = true then (laws_FnExactFromIndependent.j2 kj36 t397 (bt403.2.2 != t378) t383 t398) else (laws_FnExactFromIndependent.j2 kj36 t397 true t383 t398))))) else (none))) = some r := H
                  have A54 := Aside0.mk A540
                  clear A540
                  by_cases c55 : t399 < 0
                  · rw [if_pos c55] at H
                    exact absurd H (by simp)
                  · rw [if_neg c55] at H
                    have c55b0 : decide (t399 < 0) = false := decide_eq_false c55
                    clear c55
                    by_cases c56 : t399 = t397
                    · rw [if_pos c56] at H
                      have c56b0 : (t399 == t397) = true := beq_iff_eq.mpr c56
                      have c56b1 : (t399 != t397) = false := bne_eq_false_iff_eq.mpr c56
                      clear c56
                      replace H := Option.bind_eq_some_iff.mp H
                      obtain ⟨t400, A570, H⟩ := H
                      replace H : ((impl_FromIndependent.f kj36 a0 t400).bind fun bt403 => ((laws_eqMatroid.f kj36 bt403.1 bt403.2.1 t374 t375).bind fun t409 => (if t409 = true then (laws_FnExactFromIndependent.j2 kj36 t397 (bt403.2.2 != t378) t383 t398) else (laws_FnExactFromIndependent.j2 kj36 t397 true t383 t398)))) = some r := H
                      have A57 := Aside0.mk A570
                      clear A570
                      replace H := Option.bind_eq_some_iff.mp H
                      obtain ⟨⟨t403, t404, t407⟩, A580, H⟩ := H
                      replace H : ((laws_eqMatroid.f kj36 t403 t404 t374 t375).bind fun t409 => (if t409 = true then (laws_FnExactFromIndependent.j2 kj36 t397 (t407 != t378) t383 t398) else (laws_FnExactFromIndependent.j2 kj36 t397 true t383 t398))) = some r := H
                      have A58 := Aside0.mk A580
                      clear A580
                      have HC59 := Aside0.mk H
                      clear H
                      have hnb60 := NB388_379.out
                      have hnc60 := NB379_388.out
                      have hcz61_0 : wc.cell? ⟨gb388, 0, none⟩ = some (.int .i64 t383) := (blk_cell BK388.out 0).trans rfl
                      have hcz61_1 : wc.cell? ⟨gb388, 1, none⟩ = some (.slice Ao21 t384.length co21) := (blk_cell BK388.out 1).trans rfl
                      have hfz61_0 := blk_frozen BK388.out 0
                      have hfz61_1 := blk_frozen BK388.out 1
                      go_upto_region 23 with (first | ((with_reducible refine gate_callee (f := 17) rfl ?_); refine goesL_ (some 65) rfl rfl Try.func17 (by kernel_rfl) rfl #[.agg #[.int .i64 t383, .slice Ao21 t384.length co21], .int .i64 1] rfl (by (try simp only [List.map_toArray, List.map_cons, List.map_nil]); first | done | rfl | (simp only [List.length_drop, List.length_take]; rfl)) ?_; (with_reducible refine (laws_markMatroid.calls kj36 t383 (fun k_ => some k_ = (.slice Ao21 t384.length co21 : Value).ownBlock) (.slice Ao21 t384.length co21) t384 1 t397 t398 w _ ?side1 ?side2 A53.out).mono ?_); (case side1 => repeat (first | (with_reducible first | exact HB.out | apply below_alloc | apply pw_below_drewN | apply below_drew1 | refine below_set ?_ GE379.out | refine below_set ?_ GE388.out) | exact HB.out)); (case side2 => exact Kd.R_tight rfl HO_389001.out); rintro e w62 ⟨rfl, hy0, hb, hkp⟩; refine ⟨_, rfl, ?_⟩; have n0_ := Aside0.mk (Kd.R_mono (ok' := fun k_ => some k_ ≠ (.slice Ao21 t384.length co21 : Value).ownBlock) (Kd.R_keptB (HO_380001.out) hkp (fun k_ hk_ hs_ => by first | exact hk_ hs_ | (have e_ : some k_ = _ := hs_; simp only [e_, ne_eq, not_true_eq_false, and_false, false_and] at hk_))) (fun k_ hk_ => hk_.1)); have n1_ := Aside0.mk (Kd.R_reok rfl hy0 (fun k_ e_ => HO_389001.out.1 k_ e_)); have n2_ := Aside0.mk (blk_kept (by (with_reducible repeat (first | refine blk_drewN ?_ _ | refine blk_drew ?_ | refine blk_alloc ?_ _)); exact BK379.out) hkp (fun hs_ => (fun e_ => (Kd.R_ne HO_389001.out BK379.out (by decide)) e_) hs_)); have n3_ := Aside0.mk (blk_kept (by (with_reducible repeat (first | refine blk_drewN ?_ _ | refine blk_drew ?_ | refine blk_alloc ?_ _)); exact BK388.out) hkp (fun hs_ => (fun e_ => (Kd.R_ne HO_389001.out BK388.out (by decide)) e_) hs_)); have n4_ := Aside0.mk (hb); clear HO_380001; clear HO_389001; clear BK379; clear BK388; clear HB; have HO_380001 := n0_; have HO_389001 := n1_; have BK379 := n2_; have BK388 := n3_; have HB := n4_; clear n0_ n1_ n2_ n3_ n4_; (try clear hb); (try clear hkp); (try clear hy0); have hcz63_0 : w62.cell? ⟨gb388, 0, none⟩ = some (.int .i64 t383) := (blk_cell BK388.out 0).trans rfl; have hcz63_1 : w62.cell? ⟨gb388, 1, none⟩ = some (.slice Ao21 t384.length co21) := (blk_cell BK388.out 1).trans rfl; have hfz63_0 := blk_frozen BK388.out 0; have hfz63_1 := blk_frozen BK388.out 1) | ((with_reducible refine gate_callee (f := 23) rfl ?_); refine goesL_ (some 68) rfl rfl Try.func23 (by kernel_rfl) rfl #[.agg #[.int .i64 t383, .slice Ao21 t398.length co21], .int .i64 1] rfl (by (try simp only [List.map_toArray, List.map_cons, List.map_nil]); first | done | (rw [show t398.length = t384.length from (Kd.R_reads' HO_389001.out).1.symm] <;> rfl) | rfl | (simp only [List.length_drop, List.length_take]; rfl)) ?_; (with_reducible refine (laws_heldMatroid.calls kj36 t383 _ _ t398 1 t399 _ ?side1 ?side2 A54.out).mono ?_); (case side1 => repeat (first | exact (Kd.R_reads' HO_389001.out).2.2 | (with_reducible refine Kd.C_alloc ?_ _) | (with_reducible refine Kd.C_drewN ?_ _) | (with_reducible refine Kd.C_drew ?_))); (case side2 => rw [show t398.length = t384.length from (Kd.R_reads' HO_389001.out).1.symm]; exact (Kd.R_reads' HO_389001.out).2.1); rintro e w64 ⟨rfl, hb⟩; refine ⟨_, rfl, ?_⟩; have n0_ := Aside0.mk (Kd.R_below (by (with_reducible repeat (first | apply Kd.R_alloc | apply Kd.R_drewN | apply Kd.R_drew)); exact HO_380001.out) hb); have n1_ := Aside0.mk (Kd.R_below (by (with_reducible repeat (first | apply Kd.R_alloc | apply Kd.R_drewN | apply Kd.R_drew)); exact HO_389001.out) hb); have n2_ := Aside0.mk (blk_below (g := gb379) (o := .cells #[.int .i64 t374, .slice Ao14 t375.length co14] 27 (0, 0)) (by (with_reducible repeat (first | refine blk_drewN ?_ _ | refine blk_drew ?_ | refine blk_alloc ?_ _)); exact BK379.out) hb); have n3_ := Aside0.mk (blk_below (g := gb388) (o := .cells #[.int .i64 t383, .slice Ao21 t384.length co21] 27 (0, 0)) (by (with_reducible repeat (first | refine blk_drewN ?_ _ | refine blk_drew ?_ | refine blk_alloc ?_ _)); exact BK388.out) hb); have n4_ := Aside0.mk (below_step (by repeat (first | (with_reducible first | exact HB.out | apply below_alloc | apply pw_below_drewN | apply below_drew1 | refine below_set ?_ GE379.out | refine below_set ?_ GE388.out) | exact HB.out)) hb); clear HO_380001; clear HO_389001; clear BK379; clear BK388; clear HB; have HO_380001 := n0_; have HO_389001 := n1_; have BK379 := n2_; have BK388 := n3_; have HB := n4_; clear n0_ n1_ n2_ n3_ n4_; (try clear hb); (try clear hb2); (try clear hk); (try clear hi)) | ((with_reducible refine gate_callee (f := 21) rfl ?_); refine goesL_ (some 77) rfl rfl Try.func21 (by kernel_rfl) rfl #[.slice A1 l1.length c1] rfl (by (try simp only [List.map_toArray, List.map_cons, List.map_nil]); first | done | rfl | (simp only [List.length_drop, List.length_take]; rfl)) ?_; (with_reducible refine (laws_toIntS.calls kj36 _ _ l1 t400 _ ?side1 ?side2 A57.out).mono ?_); (case side1 => repeat (first | exact (Kd.C_below HR1.out HB.out) | (with_reducible refine Kd.C_alloc ?_ _) | (with_reducible refine Kd.C_drewN ?_ _) | (with_reducible refine Kd.C_drew ?_))); (case side2 => exact HC1.out); rintro e w65 ⟨v401, rfl, ho0, hb⟩; refine ⟨_, rfl, ?_⟩; have n0_ := Aside0.mk (Kd.R_elder' (by (with_reducible repeat (first | apply Kd.R_alloc | apply Kd.R_drewN | apply Kd.R_drew)); exact HO_380001.out) (Kd.R_base ho0) hb); have n1_ := Aside0.mk (Kd.R_elder' (by (with_reducible repeat (first | apply Kd.R_alloc | apply Kd.R_drewN | apply Kd.R_drew)); exact HO_389001.out) (Kd.R_base ho0) hb); have n2_ := Aside0.mk (Kd.R_lower (Kd.R_new' (Kd.R_new' ho0 (Kd.R_lt (by (with_reducible repeat (first | apply Kd.R_alloc | apply Kd.R_drewN | apply Kd.R_drew)); exact HO_380001.out))) (Kd.R_lt (by (with_reducible repeat (first | apply Kd.R_alloc | apply Kd.R_drewN | apply Kd.R_drew)); exact HO_389001.out))) (below_size (by repeat (first | (with_reducible first | exact HB.out | apply below_alloc | apply pw_below_drewN | apply below_drew1 | refine below_set ?_ GE379.out | refine below_set ?_ GE388.out) | exact HB.out)))); have n3_ := Aside0.mk (blk_below (g := gb379) (o := .cells #[.int .i64 t374, .slice Ao14 t375.length co14] 27 (0, 0)) (by (with_reducible repeat (first | refine blk_drewN ?_ _ | refine blk_drew ?_ | refine blk_alloc ?_ _)); exact BK379.out) hb); have n4_ := Aside0.mk (blk_below (g := gb388) (o := .cells #[.int .i64 t383, .slice Ao21 t384.length co21] 27 (0, 0)) (by (with_reducible repeat (first | refine blk_drewN ?_ _ | refine blk_drew ?_ | refine blk_alloc ?_ _)); exact BK388.out) hb); have n5_ := Aside0.mk (below_step (by repeat (first | (with_reducible first | exact HB.out | apply below_alloc | apply pw_below_drewN | apply below_drew1 | refine below_set ?_ GE379.out | refine below_set ?_ GE388.out) | exact HB.out)) hb); clear HO_380001; clear HO_389001; clear BK379; clear BK388; clear HB; have HO_380001 := n0_; have HO_389001 := n1_; have HO402 := n2_; have BK379 := n3_; have BK388 := n4_; have HB := n5_; clear n0_ n1_ n2_ n3_ n4_ n5_; (try clear hb); (try clear hb2); (try clear hk); (try clear hi); (try clear ho0); obtain ⟨Ao66, co66, eo66⟩ := Kd.R_slice HO402.out; subst eo66) | ((with_reducible refine gate_callee (f := 22) rfl ?_); refine goesL_ (some 78) rfl rfl Try.func22 (by kernel_rfl) rfl #[.int .i64 a0, .slice Ao66 t400.length co66] rfl (by (try simp only [List.map_toArray, List.map_cons, List.map_nil]); first | done | rfl | (simp only [List.length_drop, List.length_take]; rfl)) ?_; (with_reducible refine (impl_FromIndependent.calls kj36 a0 _ _ t400 t403 t404 t407 _ ?side1 ?side2 A58.out).mono ?_); (case side1 => repeat (first | exact (Kd.R_reads' HO402.out).2.2 | (with_reducible refine Kd.C_alloc ?_ _) | (with_reducible refine Kd.C_drewN ?_ _) | (with_reducible refine Kd.C_drew ?_))); (case side2 => exact (Kd.R_reads' HO402.out).2.1); rintro e w67 ⟨v405, rfl, ho0, hb⟩; refine ⟨_, rfl, ?_⟩; have n0_ := Aside0.mk (Kd.R_elder' (by (with_reducible repeat (first | apply Kd.R_alloc | apply Kd.R_drewN | apply Kd.R_drew)); exact HO_380001.out) (Kd.R_base ho0) hb); have n1_ := Aside0.mk (Kd.R_elder' (by (with_reducible repeat (first | apply Kd.R_alloc | apply Kd.R_drewN | apply Kd.R_drew)); exact HO_389001.out) (Kd.R_base ho0) hb); have n2_ := Aside0.mk (Kd.R_elder' (by (with_reducible repeat (first | apply Kd.R_alloc | apply Kd.R_drewN | apply Kd.R_drew)); exact HO402.out) (Kd.R_base ho0) hb); have n3_ := Aside0.mk (Kd.R_lower (Kd.R_new' (Kd.R_new' (Kd.R_new' ho0 (Kd.R_lt (by (with_reducible repeat (first | apply Kd.R_alloc | apply Kd.R_drewN | apply Kd.R_drew)); exact HO_380001.out))) (Kd.R_lt (by (with_reducible repeat (first | apply Kd.R_alloc | apply Kd.R_drewN | apply Kd.R_drew)); exact HO_389001.out))) (Kd.R_lt (by (with_reducible repeat (first | apply Kd.R_alloc | apply Kd.R_drewN | apply Kd.R_drew)); exact HO402.out))) (below_size (by repeat (first | (with_reducible first | exact HB.out | apply below_alloc | apply pw_below_drewN | apply below_drew1 | refine below_set ?_ GE379.out | refine below_set ?_ GE388.out) | exact HB.out)))); have n4_ := Aside0.mk (blk_below (g := gb379) (o := .cells #[.int .i64 t374, .slice Ao14 t375.length co14] 27 (0, 0)) (by (with_reducible repeat (first | refine blk_drewN ?_ _ | refine blk_drew ?_ | refine blk_alloc ?_ _)); exact BK379.out) hb); have n5_ := Aside0.mk (blk_below (g := gb388) (o := .cells #[.int .i64 t383, .slice Ao21 t384.length co21] 27 (0, 0)) (by (with_reducible repeat (first | refine blk_drewN ?_ _ | refine blk_drew ?_ | refine blk_alloc ?_ _)); exact BK388.out) hb); have n6_ := Aside0.mk (below_step (by repeat (first | (with_reducible first | exact HB.out | apply below_alloc | apply pw_below_drewN | apply below_drew1 | refine below_set ?_ GE379.out | refine below_set ?_ GE388.out) | exact HB.out)) hb); clear HO_380001; clear HO_389001; clear HO402; clear BK379; clear BK388; clear HB; have HO_380001 := n0_; have HO_389001 := n1_; have HO402 := n2_; have HO406 := n3_; have BK379 := n4_; have BK388 := n5_; have HB := n6_; clear n0_ n1_ n2_ n3_ n4_ n5_ n6_; (try clear hb); (try clear hb2); (try clear hk); (try clear hi); (try clear ho0)) | ((with_reducible refine gate_dst (N := 13) rfl ?_); refine box_event ?hg (N := 13) ?hd (cs := #[.int .i64 0, .slice none 0 0]) (t := 27) ?hr ?_; (case hd => rfl); (case hg => rfl); (case hr => first | (go_simp; done) | (go_simp; rfl)); intro gb408 hg w68 hbox hb; have n0_ := Aside0.mk (Kd.R_below (by (with_reducible repeat (first | apply Kd.R_alloc | apply Kd.R_drewN | apply Kd.R_drew)); exact HO_380001.out) hb); have n1_ := Aside0.mk (Kd.R_below (by (with_reducible repeat (first | apply Kd.R_alloc | apply Kd.R_drewN | apply Kd.R_drew)); exact HO_389001.out) hb); have n2_ := Aside0.mk (Kd.R_below (by (with_reducible repeat (first | apply Kd.R_alloc | apply Kd.R_drewN | apply Kd.R_drew)); exact HO402.out) hb); have n3_ := Aside0.mk (Kd.R_below (by (with_reducible repeat (first | apply Kd.R_alloc | apply Kd.R_drewN | apply Kd.R_drew)); exact HO406.out) hb); have n4_ := Aside0.mk (blk_below (g := gb379) (o := .cells #[.int .i64 t374, .slice Ao14 t375.length co14] 27 (0, 0)) (by (with_reducible repeat (first | refine blk_drewN ?_ _ | refine blk_drew ?_ | refine blk_alloc ?_ _)); exact BK379.out) hb); have n5_ := Aside0.mk (blk_below (g := gb388) (o := .cells #[.int .i64 t383, .slice Ao21 t384.length co21] 27 (0, 0)) (by (with_reducible repeat (first | refine blk_drewN ?_ _ | refine blk_drew ?_ | refine blk_alloc ?_ _)); exact BK388.out) hb); have n6_ := Aside0.mk (below_step (by repeat (first | (with_reducible first | exact HB.out | apply below_alloc | apply pw_below_drewN | apply below_drew1 | refine below_set ?_ GE379.out | refine below_set ?_ GE388.out) | exact HB.out)) hb); have n7_ := Aside0.mk (hbox); have n8_ := Aside0.mk ((by rw [hg]; exact (below_size (by repeat (first | (with_reducible first | exact HB.out | apply below_alloc | apply pw_below_drewN | apply below_drew1 | refine below_set ?_ GE379.out | refine below_set ?_ GE388.out) | exact HB.out))) : w.heap.size ≤ gb408)); have n9_ := Aside0.mk ((by rw [hg]; exact (below_size (by repeat (first | (with_reducible first | exact HB.out | apply below_alloc | apply pw_below_drewN | apply below_drew1 | refine below_set ?_ GE379.out | refine below_set ?_ GE388.out) | exact HB.out))) : w.heap.size ≤ gb408)); have n10_ := Aside0.mk ((by rw [hg]; exact Nat.ne_of_lt (blk_lt (g := gb379) (o := .cells #[.int .i64 t374, .slice Ao14 t375.length co14] 27 (0, 0)) (by (with_reducible repeat (first | refine blk_drewN ?_ _ | refine blk_drew ?_ | refine blk_alloc ?_ _)); exact BK379.out)) : gb379 ≠ gb408)); have n11_ := Aside0.mk ((by rw [hg]; exact Nat.ne_of_gt (blk_lt (g := gb379) (o := .cells #[.int .i64 t374, .slice Ao14 t375.length co14] 27 (0, 0)) (by (with_reducible repeat (first | refine blk_drewN ?_ _ | refine blk_drew ?_ | refine blk_alloc ?_ _)); exact BK379.out)) : gb408 ≠ gb379)); have n12_ := Aside0.mk ((by rw [hg]; exact Nat.ne_of_lt (blk_lt (g := gb388) (o := .cells #[.int .i64 t383, .slice Ao21 t384.length co21] 27 (0, 0)) (by (with_reducible repeat (first | refine blk_drewN ?_ _ | refine blk_drew ?_ | refine blk_alloc ?_ _)); exact BK388.out)) : gb388 ≠ gb408)); have n13_ := Aside0.mk ((by rw [hg]; exact Nat.ne_of_gt (blk_lt (g := gb388) (o := .cells #[.int .i64 t383, .slice Ao21 t384.length co21] 27 (0, 0)) (by (with_reducible repeat (first | refine blk_drewN ?_ _ | refine blk_drew ?_ | refine blk_alloc ?_ _)); exact BK388.out)) : gb408 ≠ gb388)); clear HO_380001; clear HO_389001; clear HO402; clear HO406; clear BK379; clear BK388; clear HB; have HO_380001 := n0_; have HO_389001 := n1_; have HO402 := n2_; have HO406 := n3_; have BK379 := n4_; have BK388 := n5_; have HB := n6_; have BK408 := n7_; have GW408 := n8_; have GE408 := n9_; have NB379_408 := n10_; have NB408_379 := n11_; have NB388_408 := n12_; have NB408_388 := n13_; clear n0_ n1_ n2_ n3_ n4_ n5_ n6_ n7_ n8_ n9_ n10_ n11_ n12_ n13_; clear hb hbox hg; have hnb69 := NB408_379.out; have hnc69 := NB379_408.out; have hnb70 := NB408_388.out; have hnc70 := NB388_408.out; have hcz71_0 : w68.cell? ⟨gb408, 0, none⟩ = some (.int .i64 0) := (blk_cell BK408.out 0).trans rfl; have hcz71_1 : w68.cell? ⟨gb408, 1, none⟩ = some (.slice none 0 0) := (blk_cell BK408.out 1).trans rfl; have hfz71_0 := blk_frozen BK408.out 0; have hfz71_1 := blk_frozen BK408.out 1; obtain ⟨Ao72, co72, eo72⟩ := Kd.R_slice HO406.out; subst eo72))
                      (try simp only [Act.put, List.setIfInBounds_toArray, List.set_cons_zero, List.set_cons_succ])
                      go_cut [89] (fun v89 wc => ∃ (kq : Nat) (x89_58 : Bool), v89 = .bool x89_58 ∧ Aside0 (laws_FnExactFromIndependent.j2 kq t397 x89_58 t383 t398 = some r) ∧ Aside0 (kq ≤ kj36) ∧ Aside0 (Kd.R (Kd.int .i64) 3 wc w.heap.size (fun k_ => some k_ ≠ ((.slice Ao21 t384.length co21) : Value).ownBlock ∧ some k_ ≠ ((.slice Ao72 t404.length co72) : Value).ownBlock) (.slice Ao14 t375.length co14) t375) ∧ Aside0 (Kd.R (Kd.int .i64) 3 wc w.heap.size (fun k_ => some k_ ≠ ((.slice Ao14 t375.length co14) : Value).ownBlock ∧ some k_ ≠ ((.slice Ao72 t404.length co72) : Value).ownBlock) (.slice Ao21 t384.length co21) t398) ∧ Aside0 (Kd.R (Kd.int .i64) 3 wc w.heap.size (fun k_ => some k_ ≠ ((.slice Ao14 t375.length co14) : Value).ownBlock ∧ some k_ ≠ ((.slice Ao21 t384.length co21) : Value).ownBlock) (.slice Ao72 t404.length co72) t404) ∧ Aside0 (wc.heap[gb379]? = some (.cells #[.int .i64 t374, (.slice Ao14 t375.length co14)] 27 (0, 0))) ∧ Aside0 (wc.heap[gb388]? = some (.cells #[.int .i64 t383, (.slice Ao21 t384.length co21)] 27 (0, 0))) ∧ Aside0 (wc.heap[gb408]? = some (.cells #[.int .i64 t403, (.slice Ao72 t404.length co72)] 27 (0, 0))) ∧ Aside0 (Below w.heap.size w wc))
                      case first =>
                        have H := HC59.out
                        clear HC59
                        replace H := Option.bind_eq_some_iff.mp H
                        obtain ⟨t409, A730, H⟩ := H
                        replace H : (if t409 = true then (laws_FnExactFromIndependent.j2 kj36 t397 (t407 != t378) t383 t398) else (laws_FnExactFromIndependent.j2 kj36 t397 true t383 t398)) = some r := H
                        have A73 := Aside0.mk A730
                        clear A730
                        by_cases c74 : t409 = true
                        · subst c74
                          have H1 : (laws_FnExactFromIndependent.j2 kj36 t397 (t407 != t378) t383 t398) = some r := by rw [if_pos rfl] at H; exact H
                          clear H
                          have H := H1
                          clear H1
                          have H' := Aside0.mk H
                          clear H
                          have hnb75 := NB408_379.out
                          have hnc75 := NB379_408.out
                          have hnb76 := NB408_388.out
                          have hnc76 := NB388_408.out
                          have hcz77_0 : w68.cell? ⟨gb408, 0, none⟩ = some (.int .i64 0) := (blk_cell BK408.out 0).trans rfl
                          have hcz77_1 : w68.cell? ⟨gb408, 1, none⟩ = some (.slice none 0 0) := (blk_cell BK408.out 1).trans rfl
                          have hfz77_0 := blk_frozen BK408.out 0
                          have hfz77_1 := blk_frozen BK408.out 1
                          have hnb78 := NB379_388.out
                          have hnc78 := NB388_379.out
                          have hcz79_0 : w68.cell? ⟨gb379, 0, none⟩ = some (.int .i64 t374) := (blk_cell BK379.out 0).trans rfl
                          have hcz79_1 : w68.cell? ⟨gb379, 1, none⟩ = some (.slice Ao14 t375.length co14) := (blk_cell BK379.out 1).trans rfl
                          have hfz79_0 := blk_frozen BK379.out 0
                          have hfz79_1 := blk_frozen BK379.out 1
                          go_wp2_with (first | ((with_reducible refine gate_callee (f := 16) rfl ?_); refine goesL_ (some 83) rfl rfl Try.func16 (by kernel_rfl) rfl #[.agg #[.int .i64 t403, .slice Ao72 t404.length co72], .agg #[.int .i64 t374, .slice Ao14 t375.length co14]] rfl (by (try simp only [List.map_toArray, List.map_cons, List.map_nil]); first | done | rfl | (simp only [List.length_drop, List.length_take]; rfl)) ?_; (with_reducible refine (laws_eqMatroid.calls kj36 t403 _ _ t404 t374 _ _ t375 true _ ?side1 ?side2 ?side3 ?side4 A73.out).mono ?_); (case side1 => refine (Kd.R_reads' (e := 3) (base := w.heap.size) (ok := fun k_ => (((True ∧ some k_ ≠ (.slice Ao14 t375.length co14 : Value).ownBlock) ∧ some k_ ≠ (.slice Ao21 t384.length co21 : Value).ownBlock) ∧ some k_ ≠ (.slice Ao66 t400.length co66 : Value).ownBlock)) (n := t404.length) (c := co72) ?_).2.2; exact (by (with_reducible repeat (first | apply Kd.R_alloc | apply Kd.R_drewN | apply Kd.R_drew)); exact (Kd.R_mono (Kd.R_far (p := ⟨gb408, 1, none⟩) (Kd.R_far (p := ⟨gb408, 0, none⟩) (Kd.R_types HO406.out BK408.out (by decide)) (fun _ hk => hk.2) (.int .i64 t403)) (fun _ hk => hk.2) (.slice Ao72 t404.length co72)) (fun _ h_ => h_.1)))); (case side2 => exact (Kd.R_reads' HO406.out).2.1); (case side3 => refine (Kd.R_reads' (e := 3) (base := w.heap.size) (ok := fun k_ => ((some k_ ≠ (.slice Ao21 t384.length co21 : Value).ownBlock ∧ some k_ ≠ (.slice Ao66 t400.length co66 : Value).ownBlock) ∧ some k_ ≠ (.slice Ao72 t404.length co72 : Value).ownBlock)) (n := t375.length) (c := co14) ?_).2.2; exact (by (with_reducible repeat (first | apply Kd.R_alloc | apply Kd.R_drewN | apply Kd.R_drew)); exact (Kd.R_mono (Kd.R_far (p := ⟨gb408, 1, none⟩) (Kd.R_far (p := ⟨gb408, 0, none⟩) (Kd.R_types HO_380001.out BK408.out (by decide)) (fun _ hk => hk.2) (.int .i64 t403)) (fun _ hk => hk.2) (.slice Ao72 t404.length co72)) (fun _ h_ => h_.1)))); (case side4 => exact (Kd.R_reads' HO_380001.out).2.1); rintro e w80 ⟨rfl, hb⟩; refine ⟨_, rfl, ?_⟩; have n0_ := Aside0.mk (Kd.R_below (by (with_reducible repeat (first | apply Kd.R_alloc | apply Kd.R_drewN | apply Kd.R_drew)); exact (Kd.R_mono (Kd.R_far (p := ⟨gb408, 1, none⟩) (Kd.R_far (p := ⟨gb408, 0, none⟩) (Kd.R_types HO_380001.out BK408.out (by decide)) (fun _ hk => hk.2) (.int .i64 t403)) (fun _ hk => hk.2) (.slice Ao72 t404.length co72)) (fun _ h_ => h_.1))) hb); have n1_ := Aside0.mk (Kd.R_below (by (with_reducible repeat (first | apply Kd.R_alloc | apply Kd.R_drewN | apply Kd.R_drew)); exact (Kd.R_mono (Kd.R_far (p := ⟨gb408, 1, none⟩) (Kd.R_far (p := ⟨gb408, 0, none⟩) (Kd.R_types HO_389001.out BK408.out (by decide)) (fun _ hk => hk.2) (.int .i64 t403)) (fun _ hk => hk.2) (.slice Ao72 t404.length co72)) (fun _ h_ => h_.1))) hb); have n2_ := Aside0.mk (Kd.R_below (by (with_reducible repeat (first | apply Kd.R_alloc | apply Kd.R_drewN | apply Kd.R_drew)); exact (Kd.R_mono (Kd.R_far (p := ⟨gb408, 1, none⟩) (Kd.R_far (p := ⟨gb408, 0, none⟩) (Kd.R_types HO402.out BK408.out (by decide)) (fun _ hk => hk.2) (.int .i64 t403)) (fun _ hk => hk.2) (.slice Ao72 t404.length co72)) (fun _ h_ => h_.1))) hb); have n3_ := Aside0.mk (Kd.R_below (by (with_reducible repeat (first | apply Kd.R_alloc | apply Kd.R_drewN | apply Kd.R_drew)); exact (Kd.R_mono (Kd.R_far (p := ⟨gb408, 1, none⟩) (Kd.R_far (p := ⟨gb408, 0, none⟩) (Kd.R_types HO406.out BK408.out (by decide)) (fun _ hk => hk.2) (.int .i64 t403)) (fun _ hk => hk.2) (.slice Ao72 t404.length co72)) (fun _ h_ => h_.1))) hb); have n4_ := Aside0.mk (blk_below (g := gb379) (o := .cells #[.int .i64 t374, .slice Ao14 t375.length co14] 27 (0, 0)) (by (with_reducible repeat (first | refine blk_drewN ?_ _ | refine blk_drew ?_ | refine blk_alloc ?_ _)); refine blk_far ?_ NB379_408.out _; (with_reducible repeat (first | refine blk_drewN ?_ _ | refine blk_drew ?_ | refine blk_alloc ?_ _)); refine blk_far ?_ NB379_408.out _; (with_reducible repeat (first | refine blk_drewN ?_ _ | refine blk_drew ?_ | refine blk_alloc ?_ _)); exact BK379.out) hb); have n5_ := Aside0.mk (blk_below (g := gb388) (o := .cells #[.int .i64 t383, .slice Ao21 t384.length co21] 27 (0, 0)) (by (with_reducible repeat (first | refine blk_drewN ?_ _ | refine blk_drew ?_ | refine blk_alloc ?_ _)); refine blk_far ?_ NB388_408.out _; (with_reducible repeat (first | refine blk_drewN ?_ _ | refine blk_drew ?_ | refine blk_alloc ?_ _)); refine blk_far ?_ NB388_408.out _; (with_reducible repeat (first | refine blk_drewN ?_ _ | refine blk_drew ?_ | refine blk_alloc ?_ _)); exact BK388.out) hb); have n6_ := Aside0.mk (blk_below (g := gb408) (o := .cells #[.int .i64 t403, .slice Ao72 t404.length co72] 27 (0, 0)) (by (with_reducible repeat (first | refine blk_drewN ?_ _ | refine blk_drew ?_ | refine blk_alloc ?_ _)); refine blk_put (cs := #[.int .i64 t403, .slice none 0 0]) ?_ 1 _ rfl; (with_reducible repeat (first | refine blk_drewN ?_ _ | refine blk_drew ?_ | refine blk_alloc ?_ _)); refine blk_put (cs := #[.int .i64 0, .slice none 0 0]) ?_ 0 _ rfl; (with_reducible repeat (first | refine blk_drewN ?_ _ | refine blk_drew ?_ | refine blk_alloc ?_ _)); exact BK408.out) hb); have n7_ := Aside0.mk (below_step (by repeat (first | (with_reducible first | exact HB.out | apply below_alloc | apply pw_below_drewN | apply below_drew1 | refine below_set ?_ GE379.out | refine below_set ?_ GE388.out | refine below_set ?_ GE408.out) | exact HB.out)) hb); clear HO_380001; clear HO_389001; clear HO402; clear HO406; clear BK379; clear BK388; clear BK408; clear HB; have HO_380001 := n0_; have HO_389001 := n1_; have HO402 := n2_; have HO406 := n3_; have BK379 := n4_; have BK388 := n5_; have BK408 := n6_; have HB := n7_; clear n0_ n1_ n2_ n3_ n4_ n5_ n6_ n7_; (try clear hb); (try clear hb2); (try clear hk); (try clear hi)))
                          go_meet
                          case rel => exact ⟨_, ((t407 != t378)), (by first | rfl | (simp; done) | (simp [*]; done)), H', ⟨by have := HJ7.out; have := HJ36.out; first | omega | exact Nat.le_refl _⟩, ⟨by (with_reducible repeat (first | apply Kd.R_alloc | apply Kd.R_drewN | apply Kd.R_drew)); exact Kd.R_mono HO_380001.out (fun _ hk => by first | exact ⟨hk.1.1, hk.2⟩ | (refine ⟨?_, ?_⟩ <;> intro e_ <;> simp only [e_, ne_eq, not_true_eq_false, and_false, false_and] at hk))⟩, ⟨by (with_reducible repeat (first | apply Kd.R_alloc | apply Kd.R_drewN | apply Kd.R_drew)); exact Kd.R_mono HO_389001.out (fun _ hk => by first | exact ⟨hk.1.1, hk.2⟩ | (refine ⟨?_, ?_⟩ <;> intro e_ <;> simp only [e_, ne_eq, not_true_eq_false, and_false, false_and] at hk))⟩, ⟨by (with_reducible repeat (first | apply Kd.R_alloc | apply Kd.R_drewN | apply Kd.R_drew)); exact Kd.R_mono HO406.out (fun _ hk => by first | exact ⟨hk.1.1.2, hk.1.2⟩ | (refine ⟨?_, ?_⟩ <;> intro e_ <;> simp only [e_, ne_eq, not_true_eq_false, and_false, false_and] at hk))⟩, ⟨by (with_reducible repeat (first | refine blk_drewN ?_ _ | refine blk_drew ?_ | refine blk_alloc ?_ _)); exact BK379.out⟩, ⟨by (with_reducible repeat (first | refine blk_drewN ?_ _ | refine blk_drew ?_ | refine blk_alloc ?_ _)); exact BK388.out⟩, ⟨by (with_reducible repeat (first | refine blk_drewN ?_ _ | refine blk_drew ?_ | refine blk_alloc ?_ _)); exact BK408.out⟩, ⟨by repeat (first | (with_reducible first | exact HB.out | apply below_alloc | apply pw_below_drewN | apply below_drew1 | refine below_set ?_ GE379.out | refine below_set ?_ GE388.out | refine below_set ?_ GE408.out) | exact HB.out)⟩⟩
                        · replace c74 := Bool.eq_false_iff.mpr c74
                          subst c74
                          have H1 : (laws_FnExactFromIndependent.j2 kj36 t397 true t383 t398) = some r := by rw [if_neg (show ¬ (false = true) by decide)] at H; exact H
                          clear H
                          have H := H1
                          clear H1
                          have H' := Aside0.mk H
                          clear H
                          have hnb81 := NB408_379.out
                          have hnc81 := NB379_408.out
                          have hnb82 := NB408_388.out
                          have hnc82 := NB388_408.out
                          have hcz83_0 : w68.cell? ⟨gb408, 0, none⟩ = some (.int .i64 0) := (blk_cell BK408.out 0).trans rfl
                          have hcz83_1 : w68.cell? ⟨gb408, 1, none⟩ = some (.slice none 0 0) := (blk_cell BK408.out 1).trans rfl
                          have hfz83_0 := blk_frozen BK408.out 0
                          have hfz83_1 := blk_frozen BK408.out 1
                          have hnb84 := NB379_388.out
                          have hnc84 := NB388_379.out
                          have hcz85_0 : w68.cell? ⟨gb379, 0, none⟩ = some (.int .i64 t374) := (blk_cell BK379.out 0).trans rfl
                          have hcz85_1 : w68.cell? ⟨gb379, 1, none⟩ = some (.slice Ao14 t375.length co14) := (blk_cell BK379.out 1).trans rfl
                          have hfz85_0 := blk_frozen BK379.out 0
                          have hfz85_1 := blk_frozen BK379.out 1
                          go_wp2_with (first | ((with_reducible refine gate_callee (f := 16) rfl ?_); refine goesL_ (some 83) rfl rfl Try.func16 (by kernel_rfl) rfl #[.agg #[.int .i64 t403, .slice Ao72 t404.length co72], .agg #[.int .i64 t374, .slice Ao14 t375.length co14]] rfl (by (try simp only [List.map_toArray, List.map_cons, List.map_nil]); first | done | rfl | (simp only [List.length_drop, List.length_take]; rfl)) ?_; (with_reducible refine (laws_eqMatroid.calls kj36 t403 _ _ t404 t374 _ _ t375 false _ ?side1 ?side2 ?side3 ?side4 A73.out).mono ?_); (case side1 => refine (Kd.R_reads' (e := 3) (base := w.heap.size) (ok := fun k_ => (((True ∧ some k_ ≠ (.slice Ao14 t375.length co14 : Value).ownBlock) ∧ some k_ ≠ (.slice Ao21 t384.length co21 : Value).ownBlock) ∧ some k_ ≠ (.slice Ao66 t400.length co66 : Value).ownBlock)) (n := t404.length) (c := co72) ?_).2.2; exact (by (with_reducible repeat (first | apply Kd.R_alloc | apply Kd.R_drewN | apply Kd.R_drew)); exact (Kd.R_mono (Kd.R_far (p := ⟨gb408, 1, none⟩) (Kd.R_far (p := ⟨gb408, 0, none⟩) (Kd.R_types HO406.out BK408.out (by decide)) (fun _ hk => hk.2) (.int .i64 t403)) (fun _ hk => hk.2) (.slice Ao72 t404.length co72)) (fun _ h_ => h_.1)))); (case side2 => exact (Kd.R_reads' HO406.out).2.1); (case side3 => refine (Kd.R_reads' (e := 3) (base := w.heap.size) (ok := fun k_ => ((some k_ ≠ (.slice Ao21 t384.length co21 : Value).ownBlock ∧ some k_ ≠ (.slice Ao66 t400.length co66 : Value).ownBlock) ∧ some k_ ≠ (.slice Ao72 t404.length co72 : Value).ownBlock)) (n := t375.length) (c := co14) ?_).2.2; exact (by (with_reducible repeat (first | apply Kd.R_alloc | apply Kd.R_drewN | apply Kd.R_drew)); exact (Kd.R_mono (Kd.R_far (p := ⟨gb408, 1, none⟩) (Kd.R_far (p := ⟨gb408, 0, none⟩) (Kd.R_types HO_380001.out BK408.out (by decide)) (fun _ hk => hk.2) (.int .i64 t403)) (fun _ hk => hk.2) (.slice Ao72 t404.length co72)) (fun _ h_ => h_.1)))); (case side4 => exact (Kd.R_reads' HO_380001.out).2.1); rintro e w86 ⟨rfl, hb⟩; refine ⟨_, rfl, ?_⟩; have n0_ := Aside0.mk (Kd.R_below (by (with_reducible repeat (first | apply Kd.R_alloc | apply Kd.R_drewN | apply Kd.R_drew)); exact (Kd.R_mono (Kd.R_far (p := ⟨gb408, 1, none⟩) (Kd.R_far (p := ⟨gb408, 0, none⟩) (Kd.R_types HO_380001.out BK408.out (by decide)) (fun _ hk => hk.2) (.int .i64 t403)) (fun _ hk => hk.2) (.slice Ao72 t404.length co72)) (fun _ h_ => h_.1))) hb); have n1_ := Aside0.mk (Kd.R_below (by (with_reducible repeat (first | apply Kd.R_alloc | apply Kd.R_drewN | apply Kd.R_drew)); exact (Kd.R_mono (Kd.R_far (p := ⟨gb408, 1, none⟩) (Kd.R_far (p := ⟨gb408, 0, none⟩) (Kd.R_types HO_389001.out BK408.out (by decide)) (fun _ hk => hk.2) (.int .i64 t403)) (fun _ hk => hk.2) (.slice Ao72 t404.length co72)) (fun _ h_ => h_.1))) hb); have n2_ := Aside0.mk (Kd.R_below (by (with_reducible repeat (first | apply Kd.R_alloc | apply Kd.R_drewN | apply Kd.R_drew)); exact (Kd.R_mono (Kd.R_far (p := ⟨gb408, 1, none⟩) (Kd.R_far (p := ⟨gb408, 0, none⟩) (Kd.R_types HO402.out BK408.out (by decide)) (fun _ hk => hk.2) (.int .i64 t403)) (fun _ hk => hk.2) (.slice Ao72 t404.length co72)) (fun _ h_ => h_.1))) hb); have n3_ := Aside0.mk (Kd.R_below (by (with_reducible repeat (first | apply Kd.R_alloc | apply Kd.R_drewN | apply Kd.R_drew)); exact (Kd.R_mono (Kd.R_far (p := ⟨gb408, 1, none⟩) (Kd.R_far (p := ⟨gb408, 0, none⟩) (Kd.R_types HO406.out BK408.out (by decide)) (fun _ hk => hk.2) (.int .i64 t403)) (fun _ hk => hk.2) (.slice Ao72 t404.length co72)) (fun _ h_ => h_.1))) hb); have n4_ := Aside0.mk (blk_below (g := gb379) (o := .cells #[.int .i64 t374, .slice Ao14 t375.length co14] 27 (0, 0)) (by (with_reducible repeat (first | refine blk_drewN ?_ _ | refine blk_drew ?_ | refine blk_alloc ?_ _)); refine blk_far ?_ NB379_408.out _; (with_reducible repeat (first | refine blk_drewN ?_ _ | refine blk_drew ?_ | refine blk_alloc ?_ _)); refine blk_far ?_ NB379_408.out _; (with_reducible repeat (first | refine blk_drewN ?_ _ | refine blk_drew ?_ | refine blk_alloc ?_ _)); exact BK379.out) hb); have n5_ := Aside0.mk (blk_below (g := gb388) (o := .cells #[.int .i64 t383, .slice Ao21 t384.length co21] 27 (0, 0)) (by (with_reducible repeat (first | refine blk_drewN ?_ _ | refine blk_drew ?_ | refine blk_alloc ?_ _)); refine blk_far ?_ NB388_408.out _; (with_reducible repeat (first | refine blk_drewN ?_ _ | refine blk_drew ?_ | refine blk_alloc ?_ _)); refine blk_far ?_ NB388_408.out _; (with_reducible repeat (first | refine blk_drewN ?_ _ | refine blk_drew ?_ | refine blk_alloc ?_ _)); exact BK388.out) hb); have n6_ := Aside0.mk (blk_below (g := gb408) (o := .cells #[.int .i64 t403, .slice Ao72 t404.length co72] 27 (0, 0)) (by (with_reducible repeat (first | refine blk_drewN ?_ _ | refine blk_drew ?_ | refine blk_alloc ?_ _)); refine blk_put (cs := #[.int .i64 t403, .slice none 0 0]) ?_ 1 _ rfl; (with_reducible repeat (first | refine blk_drewN ?_ _ | refine blk_drew ?_ | refine blk_alloc ?_ _)); refine blk_put (cs := #[.int .i64 0, .slice none 0 0]) ?_ 0 _ rfl; (with_reducible repeat (first | refine blk_drewN ?_ _ | refine blk_drew ?_ | refine blk_alloc ?_ _)); exact BK408.out) hb); have n7_ := Aside0.mk (below_step (by repeat (first | (with_reducible first | exact HB.out | apply below_alloc | apply pw_below_drewN | apply below_drew1 | refine below_set ?_ GE379.out | refine below_set ?_ GE388.out | refine below_set ?_ GE408.out) | exact HB.out)) hb); clear HO_380001; clear HO_389001; clear HO402; clear HO406; clear BK379; clear BK388; clear BK408; clear HB; have HO_380001 := n0_; have HO_389001 := n1_; have HO402 := n2_; have HO406 := n3_; have BK379 := n4_; have BK388 := n5_; have BK408 := n6_; have HB := n7_; clear n0_ n1_ n2_ n3_ n4_ n5_ n6_ n7_; (try clear hb); (try clear hb2); (try clear hk); (try clear hi)))
                          go_meet
                          case rel => exact ⟨_, (true), (by first | rfl | (simp; done) | (simp [*]; done)), H', ⟨by have := HJ7.out; have := HJ36.out; first | omega | exact Nat.le_refl _⟩, ⟨by (with_reducible repeat (first | apply Kd.R_alloc | apply Kd.R_drewN | apply Kd.R_drew)); exact Kd.R_mono HO_380001.out (fun _ hk => by first | exact ⟨hk.1.1, hk.2⟩ | (refine ⟨?_, ?_⟩ <;> intro e_ <;> simp only [e_, ne_eq, not_true_eq_false, and_false, false_and] at hk))⟩, ⟨by (with_reducible repeat (first | apply Kd.R_alloc | apply Kd.R_drewN | apply Kd.R_drew)); exact Kd.R_mono HO_389001.out (fun _ hk => by first | exact ⟨hk.1.1, hk.2⟩ | (refine ⟨?_, ?_⟩ <;> intro e_ <;> simp only [e_, ne_eq, not_true_eq_false, and_false, false_and] at hk))⟩, ⟨by (with_reducible repeat (first | apply Kd.R_alloc | apply Kd.R_drewN | apply Kd.R_drew)); exact Kd.R_mono HO406.out (fun _ hk => by first | exact ⟨hk.1.1.2, hk.1.2⟩ | (refine ⟨?_, ?_⟩ <;> intro e_ <;> simp only [e_, ne_eq, not_true_eq_false, and_false, false_and] at hk))⟩, ⟨by (with_reducible repeat (first | refine blk_drewN ?_ _ | refine blk_drew ?_ | refine blk_alloc ?_ _)); exact BK379.out⟩, ⟨by (with_reducible repeat (first | refine blk_drewN ?_ _ | refine blk_drew ?_ | refine blk_alloc ?_ _)); exact BK388.out⟩, ⟨by (with_reducible repeat (first | refine blk_drewN ?_ _ | refine blk_drew ?_ | refine blk_alloc ?_ _)); exact BK408.out⟩, ⟨by repeat (first | (with_reducible first | exact HB.out | apply below_alloc | apply pw_below_drewN | apply below_drew1 | refine below_set ?_ GE379.out | refine below_set ?_ GE388.out | refine below_set ?_ GE408.out) | exact HB.out)⟩⟩
                      case rest =>
                        clear HC59
                        try clear c1
                        try clear c2
                        try clear p2
                        try clear c3
                        try clear c3b0
                        try clear c3b1
                        try clear c4
                        try clear c5
                        try clear c6
                        try clear c7
                        try clear c8
                        try clear c15
                        try clear c16
                        try clear c17
                        try clear c18
                        try clear c19
                        try clear c20
                        try clear c21
                        try clear c22
                        try clear c23
                        try clear c24
                        try clear c28
                        try clear c32
                        try clear c35
                        try clear c41
                        try clear c41b0
                        try clear c43
                        try clear c44
                        try clear c48
                        try clear c52
                        try clear c55
                        try clear c55b0
                        try clear c56
                        try clear c56b0
                        try clear c56b1
                        try clear c60
                        try clear c69
                        try clear c70
                        try clear c74
                        try clear c75
                        try clear c76
                        try clear c78
                        try clear c81
                        try clear c82
                        try clear c84
                        try clear hcz13_0
                        try clear hcz13_1
                        try clear hcz20_0
                        try clear hcz20_1
                        try clear hcz25_0
                        try clear hcz25_1
                        try clear hcz26_0
                        try clear hcz26_1
                        try clear hcz29_0
                        try clear hcz29_1
                        try clear hcz30_0
                        try clear hcz30_1
                        try clear hcz45_0
                        try clear hcz45_1
                        try clear hcz46_0
                        try clear hcz46_1
                        try clear hcz49_0
                        try clear hcz49_1
                        try clear hcz50_0
                        try clear hcz50_1
                        try clear hcz61_0
                        try clear hcz61_1
                        try clear hcz63_0
                        try clear hcz63_1
                        try clear hcz71_0
                        try clear hcz71_1
                        try clear hcz77_0
                        try clear hcz77_1
                        try clear hcz79_0
                        try clear hcz79_1
                        try clear hcz83_0
                        try clear hcz83_1
                        try clear hcz85_0
                        try clear hcz85_1
                        try clear hfz13_0
                        try clear hfz13_1
                        try clear hfz20_0
                        try clear hfz20_1
                        try clear hfz25_0
                        try clear hfz25_1
                        try clear hfz26_0
                        try clear hfz26_1
                        try clear hfz29_0
                        try clear hfz29_1
                        try clear hfz30_0
                        try clear hfz30_1
                        try clear hfz45_0
                        try clear hfz45_1
                        try clear hfz46_0
                        try clear hfz46_1
                        try clear hfz49_0
                        try clear hfz49_1
                        try clear hfz50_0
                        try clear hfz50_1
                        try clear hfz61_0
                        try clear hfz61_1
                        try clear hfz63_0
                        try clear hfz63_1
                        try clear hfz71_0
                        try clear hfz71_1
                        try clear hfz77_0
                        try clear hfz77_1
                        try clear hfz79_0
                        try clear hfz79_1
                        try clear hfz83_0
                        try clear hfz83_1
                        try clear hfz85_0
                        try clear hfz85_1
                        try clear p2
                        obtain ⟨kq, x89_58, rfl, HA, HJ58, HO_380001, HO_389001, HO_409001, BK379, BK388, BK408, HB⟩ := hcut
                        have hl389001_58 := (Kd.R_reads' HO_389001.out).1
                        rw [hl389001_58] at HO_389001
                        (try simp only [hl389001_58])
                        (try simp only [hl389001_58] at BK379)
                        (try simp only [hl389001_58] at BK388)
                        (try simp only [hl389001_58] at BK408)
                        (try simp only [hl389001_58] at HO_380001)
                        (try simp only [hl389001_58] at HO_409001)
                        cases kq with
                        | zero => exact absurd HA.out (by simp [laws_FnExactFromIndependent.j2])
                        | succ kj58 =>
                          have H := HA.out
                          clear HA
                          simp only [laws_FnExactFromIndependent.j2] at H
                          by_cases c87 : x89_58 = true
                          · subst c87
                            have H1 : (none) = some r := by rw [if_pos rfl] at H; exact H
                            clear H
                            have H := H1
                            clear H1
                            exact absurd H (by simp)
                          · replace c87 := Bool.eq_false_iff.mpr c87
                            subst c87
                            have H1 : ((laws_heldMatroid.f kj58 t383 t398 1).bind fun t410 => (if t410 < 0 then (none) else (if t410 = t397 then (some true) else (none)))) = some r := by rw [if_neg (show ¬ (false = true) by decide)] at H; exact H
                            clear H
                            have H := H1
                            clear H1
                            replace H := Option.bind_eq_some_iff.mp H
                            obtain ⟨t410, A880, H⟩ := H
                            replace H : (if t410 < 0 then (none) else (if t410 = t397 then (some true) else (none))) = some r := H
                            have A88 := Aside0.mk A880
                            clear A880
                            by_cases c89 : t410 < 0
                            · rw [if_pos c89] at H
                              exact absurd H (by simp)
                            · rw [if_neg c89] at H
                              have c89b0 : decide (t410 < 0) = false := decide_eq_false c89
                              clear c89
                              by_cases c90 : t410 = t397
                              · rw [if_pos c90] at H
                                have c90b0 : (t410 == t397) = true := beq_iff_eq.mpr c90
                                have c90b1 : (t410 != t397) = false := bne_eq_false_iff_eq.mpr c90
                                clear c90
                                obtain rfl := Option.some.inj H
                                have hnb91 := NB388_379.out
                                have hnc91 := NB379_388.out
                                have hnb92 := NB388_408.out
                                have hnc92 := NB408_388.out
                                have hcz93_0 : wc.cell? ⟨gb388, 0, none⟩ = some (.int .i64 t383) := (blk_cell BK388.out 0).trans rfl
                                have hcz93_1 : wc.cell? ⟨gb388, 1, none⟩ = some (.slice Ao21 t398.length co21) := (blk_cell BK388.out 1).trans rfl
                                have hfz93_0 := blk_frozen BK388.out 0
                                have hfz93_1 := blk_frozen BK388.out 1
                                go_wp2_with (first | ((with_reducible refine gate_callee (f := 23) rfl ?_); refine goesL_ (some 92) rfl rfl Try.func23 (by kernel_rfl) rfl #[.agg #[.int .i64 t383, .slice Ao21 t398.length co21], .int .i64 1] rfl (by (try simp only [List.map_toArray, List.map_cons, List.map_nil]); first | done | rfl | (simp only [List.length_drop, List.length_take]; rfl)) ?_; (with_reducible refine (laws_heldMatroid.calls kj58 t383 _ _ t398 1 t410 _ ?side1 ?side2 A88.out).mono ?_); (case side1 => repeat (first | exact (Kd.R_reads' HO_389001.out).2.2 | (with_reducible refine Kd.C_alloc ?_ _) | (with_reducible refine Kd.C_drewN ?_ _) | (with_reducible refine Kd.C_drew ?_))); (case side2 => exact (Kd.R_reads' HO_389001.out).2.1); rintro e w94 ⟨rfl, hb⟩; refine ⟨_, rfl, ?_⟩; have n0_ := Aside0.mk (Kd.R_below (by (with_reducible repeat (first | apply Kd.R_alloc | apply Kd.R_drewN | apply Kd.R_drew)); exact HO_380001.out) hb); have n1_ := Aside0.mk (Kd.R_below (by (with_reducible repeat (first | apply Kd.R_alloc | apply Kd.R_drewN | apply Kd.R_drew)); exact HO_389001.out) hb); have n2_ := Aside0.mk (Kd.R_below (by (with_reducible repeat (first | apply Kd.R_alloc | apply Kd.R_drewN | apply Kd.R_drew)); exact HO_409001.out) hb); have n3_ := Aside0.mk (blk_below (g := gb379) (o := .cells #[.int .i64 t374, .slice Ao14 t375.length co14] 27 (0, 0)) (by (with_reducible repeat (first | refine blk_drewN ?_ _ | refine blk_drew ?_ | refine blk_alloc ?_ _)); exact BK379.out) hb); have n4_ := Aside0.mk (blk_below (g := gb388) (o := .cells #[.int .i64 t383, .slice Ao21 t398.length co21] 27 (0, 0)) (by (with_reducible repeat (first | refine blk_drewN ?_ _ | refine blk_drew ?_ | refine blk_alloc ?_ _)); exact BK388.out) hb); have n5_ := Aside0.mk (blk_below (g := gb408) (o := .cells #[.int .i64 t403, .slice Ao72 t404.length co72] 27 (0, 0)) (by (with_reducible repeat (first | refine blk_drewN ?_ _ | refine blk_drew ?_ | refine blk_alloc ?_ _)); exact BK408.out) hb); have n6_ := Aside0.mk (below_step (by repeat (first | (with_reducible first | exact HB.out | apply below_alloc | apply pw_below_drewN | apply below_drew1 | refine below_set ?_ GE379.out | refine below_set ?_ GE388.out | refine below_set ?_ GE408.out) | exact HB.out)) hb); clear HO_380001; clear HO_389001; clear HO_409001; clear BK379; clear BK388; clear BK408; clear HB; have HO_380001 := n0_; have HO_389001 := n1_; have HO_409001 := n2_; have BK379 := n3_; have BK388 := n4_; have BK408 := n5_; have HB := n6_; clear n0_ n1_ n2_ n3_ n4_ n5_ n6_; (try clear hb); (try clear hb2); (try clear hk); (try clear hi)))
                                go_ret
                                exact ⟨by first | rfl | (simp [errW_none, errW_some] <;> rfl) | (simp [*, errW_none, errW_some] <;> rfl), by repeat (first | (with_reducible first | exact HB.out | apply below_alloc | apply pw_below_drewN | apply below_drew1 | refine below_set ?_ GE379.out | refine below_set ?_ GE388.out | refine below_set ?_ GE408.out) | exact HB.out)⟩
                              · rw [if_neg c90] at H
                                exact absurd H (by simp)
                    · rw [if_neg c56] at H
                      exact absurd H (by simp)
          · replace c35 := Bool.eq_false_iff.mpr c35
            subst c35
            have H1 : (none) = some r := by rw [if_neg (show ¬ (false = true) by decide)] at H; exact H
            clear H
            have H := H1
            clear H1
            exact absurd H (by simp)

end Go.Proofs.Yteggmbhcnhbamaa.F
