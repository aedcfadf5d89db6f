/- Functions of the program as plain Lean functions, and that the Go calls answer just so, under no condition but that the plain function answers. Written by this session's program pr.py over the kit's printer, out of the translation. -/
import Derived.Test.YtopkfhnnapncgaaFx0
import Derived.Test.YtopkfhnnapncgaaFx3
import Derived.Test.YtopkfhnnapncgaaFx5
import Derived.Test.YtopkfhnnapncgaaFx8
import Derived.Test.YtopkfhnnapncgaaFx17
namespace Go.Proofs.Ytopkfhnnapncgaa.F
open Go.RowKit Go.Proofs.YtopkfhnnapncgaaW.PrintWords Go.Proofs.YtopkfhnnapncgaaW.PrintLast Go.Proofs.YtopkfhnnapncgaaW.PrintMore
attribute [local go_sem] max2_int min2_int max_two min_two max_three min_three max_four min_four   -- for this text's walks alone
set_option linter.unusedVariables false
set_option linter.unusedSimpArgs false

/-! ### laws_FnExactIncidenceMatrix: function 6 -/
mutual
def laws_FnExactIncidenceMatrix.j0 : Nat → Bool → Bool → Bool → Int → List Int → List Int → Int → Int → Int → List Int → Int → List Int → List Int → Int → Int → Int → List Int → Option (Bool)
  | 0, _, _, _, _, _, _, _, _, _, _, _, _, _, _, _, _, _ => none
  | k + 1, x5, x8, x40, x370000, x370001, x370002, x386000, x386001, x386002, x386003, x394000, x394001, x394002, x402000, x402001, x402002, x402003 => if x40 = true then (none) else ((laws_toGraph.f k x370000 x370001 x370002).bind fun bt403 => ((laws_eqGraph.f k x394000 x394001 x394002 bt403.1 bt403.2.1 bt403.2.2).bind fun t410 => (if t410 = true then ((laws_markGraph.f k x394000 x394001 x394002 1).bind fun bt411 => (if bt411.1 < 0 then (laws_FnExactIncidenceMatrix.j1 k x5 true x370000 x370001 x370002 x386000 x386001 x386002 x386003 x402000 x402001 x402002 x402003) else ((laws_eqMatrix.f k x402000 x402001 x402002 x402003 x386000 x386001 x386002 x386003).bind fun t414 => (if t414 = true then (laws_FnExactIncidenceMatrix.j1 k x5 (x8 != x5) x370000 x370001 x370002 x386000 x386001 x386002 x386003 x402000 x402001 x402002 x402003) else (laws_FnExactIncidenceMatrix.j1 k x5 true x370000 x370001 x370002 x386000 x386001 x386002 x386003 x402000 x402001 x402002 x402003))))) else (none))))
def laws_FnExactIncidenceMatrix.j1 : Nat → Bool → Bool → Int → List Int → List Int → Int → Int → Int → List Int → Int → Int → Int → List Int → Option (Bool)
  | 0, _, _, _, _, _, _, _, _, _, _, _, _, _ => none
  | k + 1, x5, x61, x370000, x370001, x370002, x386000, x386001, x386002, x386003, x402000, x402001, x402002, x402003 => if x61 = true then (none) else ((laws_markMatrix.f k x402000 x402001 x402002 x402003 1).bind fun bt415 => ((laws_heldMatrix.f k x402000 x402001 x402002 bt415.2 1).bind fun t417 => (if t417 < 0 then (none) else (if t417 = bt415.1 then ((laws_toGraph.f k x370000 x370001 x370002).bind fun bt418 => ((impl_IncidenceMatrix.f k bt418.1 bt418.2.1 bt418.2.2).bind fun bt425 => ((laws_eqMatrix.f k bt425.1 bt425.2.1 bt425.2.2.1 bt425.2.2.2.1 x386000 x386001 x386002 x386003).bind fun t433 => (if t433 = true then (laws_FnExactIncidenceMatrix.j2 k bt415.1 (bt425.2.2.2.2 != x5) x402000 x402001 x402002 bt415.2) else (laws_FnExactIncidenceMatrix.j2 k bt415.1 true x402000 x402001 x402002 bt415.2))))) else (none)))))
def laws_FnExactIncidenceMatrix.j2 : Nat → Int → Bool → Int → Int → Int → List Int → Option (Bool)
  | 0, _, _, _, _, _, _ => none
  | k + 1, x10, x87, x402000, x402001, x402002, x402003 => if x87 = true then (none) else ((laws_heldMatrix.f k x402000 x402001 x402002 x402003 1).bind fun t434 => (if t434 < 0 then (none) else (if t434 = x10 then (some true) else (none))))
end
def laws_FnExactIncidenceMatrix.f (k : Nat) (a0_0 : Int) (l0_1 : List Int) (l0_2 : List Int) : Option (Bool) := (laws_szGraph.f a0_0 l0_1 l0_2 1048576).bind fun t370 => (if t370 < 0 then (some true) else ((laws_toGraph.f k a0_0 l0_1 l0_2).bind fun bt371 => ((spec_IncidenceMatrix.f k bt371.1 bt371.2.1 bt371.2.2).bind fun bt378 => ((laws_toGraph.f k a0_0 l0_1 l0_2).bind fun bt386 => ((impl_IncidenceMatrix.f k bt386.1 bt386.2.1 bt386.2.2).bind fun bt394 => ((laws_eqMatrix.f k bt394.1 bt394.2.1 bt394.2.2.1 bt394.2.2.2.1 bt378.1 bt378.2.1 bt378.2.2.1 bt378.2.2.2.1).bind fun t402 => (if t402 = true then (laws_FnExactIncidenceMatrix.j0 k bt378.2.2.2.2 bt394.2.2.2.2 (bt394.2.2.2.2 != bt378.2.2.2.2) a0_0 l0_1 l0_2 bt378.1 bt378.2.1 bt378.2.2.1 bt378.2.2.2.1 bt386.1 bt386.2.1 bt386.2.2 bt394.1 bt394.2.1 bt394.2.2.1 bt394.2.2.2.1) else (laws_FnExactIncidenceMatrix.j0 k bt378.2.2.2.2 bt394.2.2.2.2 true a0_0 l0_1 l0_2 bt378.1 bt378.2.1 bt378.2.2.1 bt378.2.2.2.1 bt386.1 bt386.2.1 bt386.2.2 bt394.1 bt394.2.1 bt394.2.2.1 bt394.2.2.2.1))))))))
set_option maxHeartbeats 8000000 in
set_option maxRecDepth 100000 in
theorem laws_FnExactIncidenceMatrix.calls (k : Nat) (a0_0 : Int) (A0_1 : Option Addr) (c0_1 : Nat) (l0_1 : List Int) (A0_2 : Option Addr) (c0_2 : Nat) (l0_2 : List Int) (r : Bool) (w : World) (hr0_1 : Kd.C (Kd.int .i64) w A0_1 l0_1.length l0_1) (hc0_1 : l0_1.length ≤ c0_1) (hr0_2 : Kd.C (Kd.int .i64) w A0_2 l0_2.length l0_2) (hc0_2 : l0_2.length ≤ c0_2) (h : laws_FnExactIncidenceMatrix.f k a0_0 l0_1 l0_2 = some r) :
    Calls Try.prog 6 #[.agg #[.int .i64 a0_0, .slice A0_1 l0_1.length c0_1, .slice A0_2 l0_2.length c0_2]] w fun e w' => e = .returned (.bool r) ∧ Below w.heap.size w w' := by
  have hu31 := Try.underlying31
  have hu27 := Try.underlying27
  have hu34 := Try.underlying34
  have HR0_1 := Aside0.mk hr0_1
  have HC0_1 := Aside0.mk hc0_1
  clear hr0_1 hc0_1
  have HR0_2 := Aside0.mk hr0_2
  have HC0_2 := Aside0.mk hc0_2
  clear hr0_2 hc0_2
  have HB := Aside0.mk (Below.refl w.heap.size w)
  have H : ((laws_szGraph.f a0_0 l0_1 l0_2 1048576).bind fun t370 => (if t370 < 0 then (some true) else ((laws_toGraph.f k a0_0 l0_1 l0_2).bind fun bt371 => ((spec_IncidenceMatrix.f k bt371.1 bt371.2.1 bt371.2.2).bind fun bt378 => ((laws_toGraph.f k a0_0 l0_1 l0_2).bind fun bt386 => ((impl_IncidenceMatrix.f k bt386.1 bt386.2.1 bt386.2.2).bind fun bt394 => ((laws_eqMatrix.f k bt394.1 bt394.2.1 bt394.2.2.1 bt394.2.2.2.1 bt378.1 bt378.2.1 bt378.2.2.1 bt378.2.2.2.1).bind fun t402 => (if t402 = true then (laws_FnExactIncidenceMatrix.j0 k bt378.2.2.2.2 bt394.2.2.2.2 (bt394.2.2.2.2 != bt378.2.2.2.2) a0_0 l0_1 l0_2 bt378.1 bt378.2.1 bt378.2.2.1 bt378.2.2.2.1 bt386.1 bt386.2.1 bt386.2.2 bt394.1 bt394.2.1 bt394.2.2.1 bt394.2.2.2.1) else (laws_FnExactIncidenceMatrix.j0 k bt378.2.2.2.2 bt394.2.2.2.2 true a0_0 l0_1 l0_2 bt378.1 bt378.2.1 bt378.2.2.1 bt378.2.2.2.1 bt386.1 bt386.2.1 bt386.2.2 bt394.1 bt394.2.1 bt394.2.2.1 bt394.2.2.2.1))))))))) = some r := h
  clear h
  replace H := Option.bind_eq_some_iff.mp H
  obtain ⟨t370, A20, H⟩ := H
  replace H : (if t370 < 0 then (some true) else ((laws_toGraph.f k a0_0 l0_1 l0_2).bind fun bt371 => ((spec_IncidenceMatrix.f k bt371.1 bt371.2.1 bt371.2.2).bind fun bt378 => ((laws_toGraph.f k a0_0 l0_1 l0_2).bind fun bt386 => ((impl_IncidenceMatrix.f k bt386.1 bt386.2.1 bt386.2.2).bind fun bt394 => ((laws_eqMatrix.f k bt394.1 bt394.2.1 bt394.2.2.1 bt394.2.2.2.1 bt378.1 bt378.2.1 bt378.2.2.1 bt378.2.2.2.1).bind fun t402 => (if t402 = true then (laws_FnExactIncidenceMatrix.j0 k bt378.2.2.2.2 bt394.2.2.2.2 (bt394.2.2.2.2 != bt378.2.2.2.2) a0_0 l0_1 l0_2 bt378.1 bt378.2.1 bt378.2.2.1 bt378.2.2.2.1 bt386.1 bt386.2.1 bt386.2.2 bt394.1 bt394.2.1 bt394.2.2.1 bt394.2.2.2.1) else (laws_FnExactIncidenceMatrix.j0 k bt378.2.2.2.2 bt394.2.2.2.2 true a0_0 l0_1 l0_2 bt378.1 bt378.2.1 bt378.2.2.1 bt378.2.2.2.1 bt386.1 bt386.2.1 bt386.2.2 bt394.1 bt394.2.1 bt394.2.2.1 bt394.2.2.2.1)))))))) = some r := H
  have A2 := Aside0.mk A20
  clear A20
  by_cases c3 : t370 < 0
  · rw [if_pos c3] at H
    have c3b0 : decide (t370 < 0) = true := decide_eq_true c3
    clear c3
    obtain rfl := Option.some.inj H
    go_enter Try.func6, Try.ntmps6
    go_wp2_with (first | ((with_reducible refine gate_dst (N := 1) rfl ?_); refine box_event ?hg (N := 1) ?hd (cs := #[.int .i64 a0_0, .slice A0_1 l0_1.length c0_1, .slice A0_2 l0_2.length c0_2]) (t := 31) ?hr ?_; (case hd => rfl); (case hg => rfl); (case hr => first | (go_simp; done) | (go_simp; rfl)); intro gb369 hg w4 hbox hb; have n0_ := Aside0.mk (below_step (by repeat (first | (with_reducible first | exact HB.out | apply below_alloc | apply pw_below_drewN | apply below_drew1) | exact HB.out)) hb); have n1_ := Aside0.mk (hbox); have n2_ := Aside0.mk ((by rw [hg]; exact (below_size (by repeat (first | (with_reducible first | exact HB.out | apply below_alloc | apply pw_below_drewN | apply below_drew1) | exact HB.out))) : w.heap.size ≤ gb369)); have n3_ := Aside0.mk ((by rw [hg]; exact (below_size (by repeat (first | (with_reducible first | exact HB.out | apply below_alloc | apply pw_below_drewN | apply below_drew1) | exact HB.out))) : w.heap.size ≤ gb369)); clear HB; have HB := n0_; have BK369 := n1_; have GW369 := n2_; have GE369 := n3_; clear n0_ n1_ n2_ n3_; clear hb hbox hg; have hcz5_0 : w4.cell? ⟨gb369, 0, none⟩ = some (.int .i64 a0_0) := (blk_cell BK369.out 0).trans rfl; have hcz5_1 : w4.cell? ⟨gb369, 1, none⟩ = some (.slice A0_1 l0_1.length c0_1) := (blk_cell BK369.out 1).trans rfl; have hcz5_2 : w4.cell? ⟨gb369, 2, none⟩ = some (.slice A0_2 l0_2.length c0_2) := (blk_cell BK369.out 2).trans rfl; have hfz5_0 := blk_frozen BK369.out 0; have hfz5_1 := blk_frozen BK369.out 1; have hfz5_2 := blk_frozen BK369.out 2) | ((with_reducible refine gate_callee (f := 16) rfl ?_); refine goesL_ (some 16) rfl rfl Try.func16 (by kernel_rfl) rfl #[.agg #[.int .i64 a0_0, .slice A0_1 l0_1.length c0_1, .slice A0_2 l0_2.length c0_2], .int .i64 1048576] rfl (by (try simp only [List.map_toArray, List.map_cons, List.map_nil]); first | done | rfl | (simp only [List.length_drop, List.length_take]; rfl)) ?_; (with_reducible refine (laws_szGraph.calls a0_0 _ _ l0_1 _ _ l0_2 1048576 t370 _ ?side1 ?side2 ?side3 ?side4 A2.out).mono ?_); (case side1 => repeat (first | exact (Kd.C_below HR0_1.out HB.out) | (with_reducible refine Kd.C_alloc ?_ _) | (with_reducible refine Kd.C_drewN ?_ _) | (with_reducible refine Kd.C_drew ?_))); (case side2 => exact HC0_1.out); (case side3 => repeat (first | exact (Kd.C_below HR0_2.out HB.out) | (with_reducible refine Kd.C_alloc ?_ _) | (with_reducible refine Kd.C_drewN ?_ _) | (with_reducible refine Kd.C_drew ?_))); (case side4 => exact HC0_2.out); rintro e w6 ⟨rfl, hb⟩; refine ⟨_, rfl, ?_⟩; have n0_ := Aside0.mk (blk_below (g := gb369) (o := .cells #[.int .i64 a0_0, .slice A0_1 l0_1.length c0_1, .slice A0_2 l0_2.length c0_2] 31 (0, 0)) (by (with_reducible repeat (first | refine blk_drewN ?_ _ | refine blk_drew ?_ | refine blk_alloc ?_ _)); exact BK369.out) hb); have n1_ := Aside0.mk (below_step (by repeat (first | (with_reducible first | exact HB.out | apply below_alloc | apply pw_below_drewN | apply below_drew1 | refine below_set ?_ GE369.out) | exact HB.out)) hb); clear BK369; clear HB; have BK369 := n0_; have HB := n1_; clear n0_ n1_; (try clear hb); (try clear hb2); (try clear hk); (try clear hi)))
    go_ret
    exact ⟨by first | rfl | (simp [errW_none, errW_some] <;> rfl) | (simp [*, errW_none, errW_some] <;> rfl), by repeat (first | (with_reducible first | exact HB.out | apply below_alloc | apply pw_below_drewN | apply below_drew1 | refine below_set ?_ GE369.out) | exact HB.out)⟩
  · rw [if_neg c3] at H
    have c3b0 : decide (t370 < 0) = false := decide_eq_false c3
    clear c3
    replace H := Option.bind_eq_some_iff.mp H
    obtain ⟨⟨t371, t372, t375⟩, A70, H⟩ := H
    replace H : ((spec_IncidenceMatrix.f k t371 t372 t375).bind fun bt378 => ((laws_toGraph.f k a0_0 l0_1 l0_2).bind fun bt386 => ((impl_IncidenceMatrix.f k bt386.1 bt386.2.1 bt386.2.2).bind fun bt394 => ((laws_eqMatrix.f k bt394.1 bt394.2.1 bt394.2.2.1 bt394.2.2.2.1 bt378.1 bt378.2.1 bt378.2.2.1 bt378.2.2.2.1).bind fun t402 => (if t402 = true then (laws_FnExactIncidenceMatrix.j0 k bt378.2.2.2.2 bt394.2.2.2.2 (bt394.2.2.2.2 != bt378.2.2.2.2) a0_0 l0_1 l0_2 bt378.1 bt378.2.1 bt378.2.2.1 bt378.2.2.2.1 bt386.1 bt386.2.1 bt386.2.2 bt394.1 bt394.2.1 bt394.2.2.1 bt394.2.2.2.1) else (laws_FnExactIncidenceMatrix.j0 k bt378.2.2.2.2 bt394.2.2.2.2 true a0_0 l0_1 l0_2 bt378.1 bt378.2.1 bt378.2.2.1 bt378.2.2.2.1 bt386.1 bt386.2.1 bt386.2.2 bt394.1 bt394.2.1 bt394.2.2.1 bt394.2.2.2.1)))))) = some r := H
    have A7 := Aside0.mk A70
    clear A70
    replace H := Option.bind_eq_some_iff.mp H
    obtain ⟨⟨t378, t379, t380, t381, t384⟩, A80, H⟩ := H
    replace H : ((laws_toGraph.f k a0_0 l0_1 l0_2).bind fun bt386 => ((impl_IncidenceMatrix.f k bt386.1 bt386.2.1 bt386.2.2).bind fun bt394 => ((laws_eqMatrix.f k bt394.1 bt394.2.1 bt394.2.2.1 bt394.2.2.2.1 t378 t379 t380 t381).bind fun t402 => (if t402 = true then (laws_FnExactIncidenceMatrix.j0 k t384 bt394.2.2.2.2 (bt394.2.2.2.2 != t384) a0_0 l0_1 l0_2 t378 t379 t380 t381 bt386.1 bt386.2.1 bt386.2.2 bt394.1 bt394.2.1 bt394.2.2.1 bt394.2.2.2.1) else (laws_FnExactIncidenceMatrix.j0 k t384 bt394.2.2.2.2 true a0_0 l0_1 l0_2 t378 t379 t380 t381 bt386.1 bt386.2.1 bt386.2.2 bt394.1 bt394.2.1 bt394.2.2.1 bt394.2.2.2.1))))) = some r := H
    have A8 := Aside0.mk A80
    clear A80
    replace H := Option.bind_eq_some_iff.mp H
    obtain ⟨⟨t386, t387, t390⟩, A90, H⟩ := H
    replace H : ((impl_IncidenceMatrix.f k t386 t387 t390).bind fun bt394 => ((laws_eqMatrix.f k bt394.1 bt394.2.1 bt394.2.2.1 bt394.2.2.2.1 t378 t379 t380 t381).bind fun t402 => (if t402 = true then (laws_FnExactIncidenceMatrix.j0 k t384 bt394.2.2.2.2 (bt394.2.2.2.2 != t384) a0_0 l0_1 l0_2 t378 t379 t380 t381 t386 t387 t390 bt394.1 bt394.2.1 bt394.2.2.1 bt394.2.2.2.1) else (laws_FnExactIncidenceMatrix.j0 k t384 bt394.2.2.2.2 true a0_0 l0_1 l0_2 t378 t379 t380 t381 t386 t387 t390 bt394.1 bt394.2.1 bt394.2.2.1 bt394.2.2.2.1)))) = some r := H
    have A9 := Aside0.mk A90
    clear A90
    replace H := Option.bind_eq_some_iff.mp H
    obtain ⟨⟨t394, t395, t396, t397, t400⟩, A100, H⟩ := H
    replace H : ((laws_eqMatrix.f k t394 t395 t396 t397 t378 t379 t380 t381).bind fun t402 => (if t402 = true then (laws_FnExactIncidenceMatrix.j0 k t384 t400 (t400 != t384) a0_0 l0_1 l0_2 t378 t379 t380 t381 t386 t387 t390 t394 t395 t396 t397) else (laws_FnExactIncidenceMatrix.j0 k t384 t400 true a0_0 l0_1 l0_2 t378 t379 t380 t381 t386 t387 t390 t394 t395 t396 t397))) = some r := H
    have A10 := Aside0.mk A100
    clear A100
    have HC11 := Aside0.mk H
    clear H
    go_enter Try.func6, Try.ntmps6
    go_upto_region 8 with (first | ((with_reducible refine gate_dst (N := 1) rfl ?_); refine box_event ?hg (N := 1) ?hd (cs := #[.int .i64 a0_0, .slice A0_1 l0_1.length c0_1, .slice A0_2 l0_2.length c0_2]) (t := 31) ?hr ?_; (case hd => rfl); (case hg => rfl); (case hr => first | (go_simp; done) | (go_simp; rfl)); intro gb369 hg w12 hbox hb; have n0_ := Aside0.mk (below_step (by repeat (first | (with_reducible first | exact HB.out | apply below_alloc | apply pw_below_drewN | apply below_drew1) | exact HB.out)) hb); have n1_ := Aside0.mk (hbox); have n2_ := Aside0.mk ((by rw [hg]; exact (below_size (by repeat (first | (with_reducible first | exact HB.out | apply below_alloc | apply pw_below_drewN | apply below_drew1) | exact HB.out))) : w.heap.size ≤ gb369)); have n3_ := Aside0.mk ((by rw [hg]; exact (below_size (by repeat (first | (with_reducible first | exact HB.out | apply below_alloc | apply pw_below_drewN | apply below_drew1) | exact HB.out))) : w.heap.size ≤ gb369)); clear HB; have HB := n0_; have BK369 := n1_; have GW369 := n2_; have GE369 := n3_; clear n0_ n1_ n2_ n3_; clear hb hbox hg; have hcz13_0 : w12.cell? ⟨gb369, 0, none⟩ = some (.int .i64 a0_0) := (blk_cell BK369.out 0).trans rfl; have hcz13_1 : w12.cell? ⟨gb369, 1, none⟩ = some (.slice A0_1 l0_1.length c0_1) := (blk_cell BK369.out 1).trans rfl; have hcz13_2 : w12.cell? ⟨gb369, 2, none⟩ = some (.slice A0_2 l0_2.length c0_2) := (blk_cell BK369.out 2).trans rfl; have hfz13_0 := blk_frozen BK369.out 0; have hfz13_1 := blk_frozen BK369.out 1; have hfz13_2 := blk_frozen BK369.out 2) | ((with_reducible refine gate_callee (f := 16) rfl ?_); refine goesL_ (some 16) rfl rfl Try.func16 (by kernel_rfl) rfl #[.agg #[.int .i64 a0_0, .slice A0_1 l0_1.length c0_1, .slice A0_2 l0_2.length c0_2], .int .i64 1048576] rfl (by (try simp only [List.map_toArray, List.map_cons, List.map_nil]); first | done | rfl | (simp only [List.length_drop, List.length_take]; rfl)) ?_; (with_reducible refine (laws_szGraph.calls a0_0 _ _ l0_1 _ _ l0_2 1048576 t370 _ ?side1 ?side2 ?side3 ?side4 A2.out).mono ?_); (case side1 => repeat (first | exact (Kd.C_below HR0_1.out HB.out) | (with_reducible refine Kd.C_alloc ?_ _) | (with_reducible refine Kd.C_drewN ?_ _) | (with_reducible refine Kd.C_drew ?_))); (case side2 => exact HC0_1.out); (case side3 => repeat (first | exact (Kd.C_below HR0_2.out HB.out) | (with_reducible refine Kd.C_alloc ?_ _) | (with_reducible refine Kd.C_drewN ?_ _) | (with_reducible refine Kd.C_drew ?_))); (case side4 => exact HC0_2.out); rintro e w14 ⟨rfl, hb⟩; refine ⟨_, rfl, ?_⟩; have n0_ := Aside0.mk (blk_below (g := gb369) (o := .cells #[.int .i64 a0_0, .slice A0_1 l0_1.length c0_1, .slice A0_2 l0_2.length c0_2] 31 (0, 0)) (by (with_reducible repeat (first | refine blk_drewN ?_ _ | refine blk_drew ?_ | refine blk_alloc ?_ _)); exact BK369.out) hb); have n1_ := Aside0.mk (below_step (by repeat (first | (with_reducible first | exact HB.out | apply below_alloc | apply pw_below_drewN | apply below_drew1 | refine below_set ?_ GE369.out) | exact HB.out)) hb); clear BK369; clear HB; have BK369 := n0_; have HB := n1_; clear n0_ n1_; (try clear hb); (try clear hb2); (try clear hk); (try clear hi); have hcz15_0 : w14.cell? ⟨gb369, 0, none⟩ = some (.int .i64 a0_0) := (blk_cell BK369.out 0).trans rfl; have hcz15_1 : w14.cell? ⟨gb369, 1, none⟩ = some (.slice A0_1 l0_1.length c0_1) := (blk_cell BK369.out 1).trans rfl; have hcz15_2 : w14.cell? ⟨gb369, 2, none⟩ = some (.slice A0_2 l0_2.length c0_2) := (blk_cell BK369.out 2).trans rfl; have hfz15_0 := blk_frozen BK369.out 0; have hfz15_1 := blk_frozen BK369.out 1; have hfz15_2 := blk_frozen BK369.out 2) | ((with_reducible refine gate_callee (f := 18) rfl ?_); refine goesL_ (some 21) rfl rfl Try.func18 (by kernel_rfl) rfl #[.agg #[.int .i64 a0_0, .slice A0_1 l0_1.length c0_1, .slice A0_2 l0_2.length c0_2]] rfl (by (try simp only [List.map_toArray, List.map_cons, List.map_nil]); first | done | rfl | (simp only [List.length_drop, List.length_take]; rfl)) ?_; (with_reducible refine (laws_toGraph.calls k a0_0 _ _ l0_1 _ _ l0_2 t371 t372 t375 _ ?side1 ?side2 ?side3 ?side4 A7.out).mono ?_); (case side1 => repeat (first | exact (Kd.C_below HR0_1.out HB.out) | (with_reducible refine Kd.C_alloc ?_ _) | (with_reducible refine Kd.C_drewN ?_ _) | (with_reducible refine Kd.C_drew ?_))); (case side2 => exact HC0_1.out); (case side3 => repeat (first | exact (Kd.C_below HR0_2.out HB.out) | (with_reducible refine Kd.C_alloc ?_ _) | (with_reducible refine Kd.C_drewN ?_ _) | (with_reducible refine Kd.C_drew ?_))); (case side4 => exact HC0_2.out); rintro e w16 ⟨v373, v376, rfl, ho0, ho1, hb⟩; refine ⟨_, rfl, ?_⟩; have n0_ := Aside0.mk (Kd.R_lower ho0 (below_size (by repeat (first | (with_reducible first | exact HB.out | apply below_alloc | apply pw_below_drewN | apply below_drew1 | refine below_set ?_ GE369.out) | exact HB.out)))); have n1_ := Aside0.mk (Kd.R_lower ho1 (below_size (by repeat (first | (with_reducible first | exact HB.out | apply below_alloc | apply pw_below_drewN | apply below_drew1 | refine below_set ?_ GE369.out) | exact HB.out)))); have n2_ := Aside0.mk (blk_below (g := gb369) (o := .cells #[.int .i64 a0_0, .slice A0_1 l0_1.length c0_1, .slice A0_2 l0_2.length c0_2] 31 (0, 0)) (by (with_reducible repeat (first | refine blk_drewN ?_ _ | refine blk_drew ?_ | refine blk_alloc ?_ _)); exact BK369.out) hb); have n3_ := Aside0.mk (below_step (by repeat (first | (with_reducible first | exact HB.out | apply below_alloc | apply pw_below_drewN | apply below_drew1 | refine below_set ?_ GE369.out) | exact HB.out)) hb); clear BK369; clear HB; have HO374 := n0_; have HO377 := n1_; have BK369 := n2_; have HB := n3_; clear n0_ n1_ n2_ n3_; (try clear hb); (try clear hb2); (try clear hk); (try clear hi); (try clear ho0); (try clear ho1); obtain ⟨Ao17, co17, eo17⟩ := Kd.R_slice HO374.out; subst eo17; obtain ⟨Ao18, co18, eo18⟩ := Kd.R_slice HO377.out; subst eo18) | ((with_reducible refine gate_callee (f := 23) rfl ?_); refine goesL_ (some 22) rfl rfl Try.func23 (by kernel_rfl) rfl #[.agg #[.int .i64 t371, .slice Ao17 t372.length co17, .slice Ao18 t375.length co18]] rfl (by (try simp only [List.map_toArray, List.map_cons, List.map_nil]); first | done | rfl | (simp only [List.length_drop, List.length_take]; rfl)) ?_; (with_reducible refine (spec_IncidenceMatrix.calls k t371 _ _ t372 _ _ t375 t378 t379 t380 t381 t384 _ ?side1 ?side2 ?side3 ?side4 A8.out).mono ?_); (case side1 => repeat (first | exact (Kd.R_reads' HO374.out).2.2 | (with_reducible refine Kd.C_alloc ?_ _) | (with_reducible refine Kd.C_drewN ?_ _) | (with_reducible refine Kd.C_drew ?_))); (case side2 => exact (Kd.R_reads' HO374.out).2.1); (case side3 => repeat (first | exact (Kd.R_reads' HO377.out).2.2 | (with_reducible refine Kd.C_alloc ?_ _) | (with_reducible refine Kd.C_drewN ?_ _) | (with_reducible refine Kd.C_drew ?_))); (case side4 => exact (Kd.R_reads' HO377.out).2.1); rintro e w19 ⟨v382, rfl, ho0, hb⟩; refine ⟨_, rfl, ?_⟩; have n0_ := Aside0.mk (Kd.R_elder' (by (with_reducible repeat (first | apply Kd.R_alloc | apply Kd.R_drewN | apply Kd.R_drew)); exact HO374.out) (Kd.R_base ho0) hb); have n1_ := Aside0.mk (Kd.R_elder' (by (with_reducible repeat (first | apply Kd.R_alloc | apply Kd.R_drewN | apply Kd.R_drew)); exact HO377.out) (Kd.R_base ho0) hb); have n2_ := Aside0.mk (Kd.R_lower (Kd.R_new' (Kd.R_new' ho0 (Kd.R_lt (by (with_reducible repeat (first | apply Kd.R_alloc | apply Kd.R_drewN | apply Kd.R_drew)); exact HO374.out))) (Kd.R_lt (by (with_reducible repeat (first | apply Kd.R_alloc | apply Kd.R_drewN | apply Kd.R_drew)); exact HO377.out))) (below_size (by repeat (first | (with_reducible first | exact HB.out | apply below_alloc | apply pw_below_drewN | apply below_drew1 | refine below_set ?_ GE369.out) | exact HB.out)))); have n3_ := Aside0.mk (blk_below (g := gb369) (o := .cells #[.int .i64 a0_0, .slice A0_1 l0_1.length c0_1, .slice A0_2 l0_2.length c0_2] 31 (0, 0)) (by (with_reducible repeat (first | refine blk_drewN ?_ _ | refine blk_drew ?_ | refine blk_alloc ?_ _)); exact BK369.out) hb); have n4_ := Aside0.mk (below_step (by repeat (first | (with_reducible first | exact HB.out | apply below_alloc | apply pw_below_drewN | apply below_drew1 | refine below_set ?_ GE369.out) | exact HB.out)) hb); clear HO374; clear HO377; clear BK369; clear HB; have HO374 := n0_; have HO377 := n1_; have HO383 := n2_; have BK369 := n3_; have HB := n4_; clear n0_ n1_ n2_ n3_ n4_; (try clear hb); (try clear hb2); (try clear hk); (try clear hi); (try clear ho0)) | ((with_reducible refine gate_dst (N := 4) rfl ?_); refine box_event ?hg (N := 4) ?hd (cs := #[.int .i64 0, .int .i64 0, .int .i64 0, .slice none 0 0]) (t := 27) ?hr ?_; (case hd => rfl); (case hg => rfl); (case hr => first | (go_simp; done) | (go_simp; rfl)); intro gb385 hg w20 hbox hb; have n0_ := Aside0.mk (Kd.R_below (by (with_reducible repeat (first | apply Kd.R_alloc | apply Kd.R_drewN | apply Kd.R_drew)); exact HO374.out) hb); have n1_ := Aside0.mk (Kd.R_below (by (with_reducible repeat (first | apply Kd.R_alloc | apply Kd.R_drewN | apply Kd.R_drew)); exact HO377.out) hb); have n2_ := Aside0.mk (Kd.R_below (by (with_reducible repeat (first | apply Kd.R_alloc | apply Kd.R_drewN | apply Kd.R_drew)); exact HO383.out) hb); have n3_ := Aside0.mk (blk_below (g := gb369) (o := .cells #[.int .i64 a0_0, .slice A0_1 l0_1.length c0_1, .slice A0_2 l0_2.length c0_2] 31 (0, 0)) (by (with_reducible repeat (first | refine blk_drewN ?_ _ | refine blk_drew ?_ | refine blk_alloc ?_ _)); exact BK369.out) hb); have n4_ := Aside0.mk (below_step (by repeat (first | (with_reducible first | exact HB.out | apply below_alloc | apply pw_below_drewN | apply below_drew1 | refine below_set ?_ GE369.out) | exact HB.out)) hb); have n5_ := Aside0.mk (hbox); have n6_ := Aside0.mk ((by rw [hg]; exact (below_size (by repeat (first | (with_reducible first | exact HB.out | apply below_alloc | apply pw_below_drewN | apply below_drew1 | refine below_set ?_ GE369.out) | exact HB.out))) : w.heap.size ≤ gb385)); have n7_ := Aside0.mk ((by rw [hg]; exact (below_size (by repeat (first | (with_reducible first | exact HB.out | apply below_alloc | apply pw_below_drewN | apply below_drew1 | refine below_set ?_ GE369.out) | exact HB.out))) : w.heap.size ≤ gb385)); have n8_ := Aside0.mk ((by rw [hg]; exact Nat.ne_of_lt (blk_lt (g := gb369) (o := .cells #[.int .i64 a0_0, .slice A0_1 l0_1.length c0_1, .slice A0_2 l0_2.length c0_2] 31 (0, 0)) (by (with_reducible repeat (first | refine blk_drewN ?_ _ | refine blk_drew ?_ | refine blk_alloc ?_ _)); exact BK369.out)) : gb369 ≠ gb385)); have n9_ := Aside0.mk ((by rw [hg]; exact Nat.ne_of_gt (blk_lt (g := gb369) (o := .cells #[.int .i64 a0_0, .slice A0_1 l0_1.length c0_1, .slice A0_2 l0_2.length c0_2] 31 (0, 0)) (by (with_reducible repeat (first | refine blk_drewN ?_ _ | refine blk_drew ?_ | refine blk_alloc ?_ _)); exact BK369.out)) : gb385 ≠ gb369)); clear HO374; clear HO377; clear HO383; clear BK369; clear HB; have HO374 := n0_; have HO377 := n1_; have HO383 := n2_; have BK369 := n3_; have HB := n4_; have BK385 := n5_; have GW385 := n6_; have GE385 := n7_; have NB369_385 := n8_; have NB385_369 := n9_; clear n0_ n1_ n2_ n3_ n4_ n5_ n6_ n7_ n8_ n9_; clear hb hbox hg; have hnb21 := NB385_369.out; have hnc21 := NB369_385.out; have hcz22_0 : w20.cell? ⟨gb385, 0, none⟩ = some (.int .i64 0) := (blk_cell BK385.out 0).trans rfl; have hcz22_1 : w20.cell? ⟨gb385, 1, none⟩ = some (.int .i64 0) := (blk_cell BK385.out 1).trans rfl; have hcz22_2 : w20.cell? ⟨gb385, 2, none⟩ = some (.int .i64 0) := (blk_cell BK385.out 2).trans rfl; have hcz22_3 : w20.cell? ⟨gb385, 3, none⟩ = some (.slice none 0 0) := (blk_cell BK385.out 3).trans rfl; have hfz22_0 := blk_frozen BK385.out 0; have hfz22_1 := blk_frozen BK385.out 1; have hfz22_2 := blk_frozen BK385.out 2; have hfz22_3 := blk_frozen BK385.out 3; obtain ⟨Ao23, co23, eo23⟩ := Kd.R_slice HO383.out; subst eo23; have hcz24_0 : w20.cell? ⟨gb369, 0, none⟩ = some (.int .i64 a0_0) := (blk_cell BK369.out 0).trans rfl; have hcz24_1 : w20.cell? ⟨gb369, 1, none⟩ = some (.slice A0_1 l0_1.length c0_1) := (blk_cell BK369.out 1).trans rfl; have hcz24_2 : w20.cell? ⟨gb369, 2, none⟩ = some (.slice A0_2 l0_2.length c0_2) := (blk_cell BK369.out 2).trans rfl; have hfz24_0 := blk_frozen BK369.out 0; have hfz24_1 := blk_frozen BK369.out 1; have hfz24_2 := blk_frozen BK369.out 2) | ((with_reducible refine gate_callee (f := 18) rfl ?_); refine goesL_ (some 26) rfl rfl Try.func18 (by kernel_rfl) rfl #[.agg #[.int .i64 a0_0, .slice A0_1 l0_1.length c0_1, .slice A0_2 l0_2.length c0_2]] rfl (by (try simp only [List.map_toArray, List.map_cons, List.map_nil]); first | done | rfl | (simp only [List.length_drop, List.length_take]; rfl)) ?_; (with_reducible refine (laws_toGraph.calls k a0_0 _ _ l0_1 _ _ l0_2 t386 t387 t390 _ ?side1 ?side2 ?side3 ?side4 A9.out).mono ?_); (case side1 => exact Kd.C_below HR0_1.out (by repeat (first | (with_reducible first | exact HB.out | apply below_alloc | apply pw_below_drewN | apply below_drew1 | refine below_set ?_ GE369.out | refine below_set ?_ GE385.out) | exact HB.out))); (case side2 => exact HC0_1.out); (case side3 => exact Kd.C_below HR0_2.out (by repeat (first | (with_reducible first | exact HB.out | apply below_alloc | apply pw_below_drewN | apply below_drew1 | refine below_set ?_ GE369.out | refine below_set ?_ GE385.out) | exact HB.out))); (case side4 => exact HC0_2.out); rintro e w25 ⟨v388, v391, rfl, ho0, ho1, hb⟩; refine ⟨_, rfl, ?_⟩; have n0_ := Aside0.mk (Kd.R_mono (Kd.R_told (Kd.R_told (Kd.R_old (by (with_reducible repeat (first | apply Kd.R_alloc | apply Kd.R_drewN | apply Kd.R_drew)); exact (Kd.R_mono (Kd.R_far (p := ⟨gb385, 3, none⟩) (Kd.R_far (p := ⟨gb385, 2, none⟩) (Kd.R_far (p := ⟨gb385, 1, none⟩) (Kd.R_far (p := ⟨gb385, 0, none⟩) (Kd.R_types HO374.out BK385.out (by decide)) (fun _ hk => hk.2) (.int .i64 t378)) (fun _ hk => hk.2) (.int .i64 t379)) (fun _ hk => hk.2) (.int .i64 t380)) (fun _ hk => hk.2) (.slice Ao23 t381.length co23)) (fun _ h_ => h_.1))) hb) (Kd.R_base ho0)) (Kd.R_base ho1)) (fun _ h_ => h_.1)); have n1_ := Aside0.mk (Kd.R_mono (Kd.R_told (Kd.R_told (Kd.R_old (by (with_reducible repeat (first | apply Kd.R_alloc | apply Kd.R_drewN | apply Kd.R_drew)); exact (Kd.R_mono (Kd.R_far (p := ⟨gb385, 3, none⟩) (Kd.R_far (p := ⟨gb385, 2, none⟩) (Kd.R_far (p := ⟨gb385, 1, none⟩) (Kd.R_far (p := ⟨gb385, 0, none⟩) (Kd.R_types HO377.out BK385.out (by decide)) (fun _ hk => hk.2) (.int .i64 t378)) (fun _ hk => hk.2) (.int .i64 t379)) (fun _ hk => hk.2) (.int .i64 t380)) (fun _ hk => hk.2) (.slice Ao23 t381.length co23)) (fun _ h_ => h_.1))) hb) (Kd.R_base ho0)) (Kd.R_base ho1)) (fun _ h_ => h_.1)); have n2_ := Aside0.mk (Kd.R_mono (Kd.R_told (Kd.R_told (Kd.R_old (by (with_reducible repeat (first | apply Kd.R_alloc | apply Kd.R_drewN | apply Kd.R_drew)); exact (Kd.R_mono (Kd.R_far (p := ⟨gb385, 3, none⟩) (Kd.R_far (p := ⟨gb385, 2, none⟩) (Kd.R_far (p := ⟨gb385, 1, none⟩) (Kd.R_far (p := ⟨gb385, 0, none⟩) (Kd.R_types HO383.out BK385.out (by decide)) (fun _ hk => hk.2) (.int .i64 t378)) (fun _ hk => hk.2) (.int .i64 t379)) (fun _ hk => hk.2) (.int .i64 t380)) (fun _ hk => hk.2) (.slice Ao23 t381.length co23)) (fun _ h_ => h_.1))) hb) (Kd.R_base ho0)) (Kd.R_base ho1)) (fun _ h_ => h_.1)); have n3_ := Aside0.mk (Kd.R_lower (Kd.R_new' (Kd.R_new' (Kd.R_new' ho0 (Kd.R_lt (by (with_reducible repeat (first | apply Kd.R_alloc | apply Kd.R_drewN | apply Kd.R_drew)); exact (Kd.R_mono (Kd.R_far (p := ⟨gb385, 3, none⟩) (Kd.R_far (p := ⟨gb385, 2, none⟩) (Kd.R_far (p := ⟨gb385, 1, none⟩) (Kd.R_far (p := ⟨gb385, 0, none⟩) (Kd.R_types HO374.out BK385.out (by decide)) (fun _ hk => hk.2) (.int .i64 t378)) (fun _ hk => hk.2) (.int .i64 t379)) (fun _ hk => hk.2) (.int .i64 t380)) (fun _ hk => hk.2) (.slice Ao23 t381.length co23)) (fun _ h_ => h_.1))))) (Kd.R_lt (by (with_reducible repeat (first | apply Kd.R_alloc | apply Kd.R_drewN | apply Kd.R_drew)); exact (Kd.R_mono (Kd.R_far (p := ⟨gb385, 3, none⟩) (Kd.R_far (p := ⟨gb385, 2, none⟩) (Kd.R_far (p := ⟨gb385, 1, none⟩) (Kd.R_far (p := ⟨gb385, 0, none⟩) (Kd.R_types HO377.out BK385.out (by decide)) (fun _ hk => hk.2) (.int .i64 t378)) (fun _ hk => hk.2) (.int .i64 t379)) (fun _ hk => hk.2) (.int .i64 t380)) (fun _ hk => hk.2) (.slice Ao23 t381.length co23)) (fun _ h_ => h_.1))))) (Kd.R_lt (by (with_reducible repeat (first | apply Kd.R_alloc | apply Kd.R_drewN | apply Kd.R_drew)); exact (Kd.R_mono (Kd.R_far (p := ⟨gb385, 3, none⟩) (Kd.R_far (p := ⟨gb385, 2, none⟩) (Kd.R_far (p := ⟨gb385, 1, none⟩) (Kd.R_far (p := ⟨gb385, 0, none⟩) (Kd.R_types HO383.out BK385.out (by decide)) (fun _ hk => hk.2) (.int .i64 t378)) (fun _ hk => hk.2) (.int .i64 t379)) (fun _ hk => hk.2) (.int .i64 t380)) (fun _ hk => hk.2) (.slice Ao23 t381.length co23)) (fun _ h_ => h_.1))))) (below_size (by repeat (first | (with_reducible first | exact HB.out | apply below_alloc | apply pw_below_drewN | apply below_drew1 | refine below_set ?_ GE369.out | refine below_set ?_ GE385.out) | exact HB.out)))); have n4_ := Aside0.mk (Kd.R_lower (Kd.R_new' (Kd.R_new' (Kd.R_new' ho1 (Kd.R_lt (by (with_reducible repeat (first | apply Kd.R_alloc | apply Kd.R_drewN | apply Kd.R_drew)); exact (Kd.R_mono (Kd.R_far (p := ⟨gb385, 3, none⟩) (Kd.R_far (p := ⟨gb385, 2, none⟩) (Kd.R_far (p := ⟨gb385, 1, none⟩) (Kd.R_far (p := ⟨gb385, 0, none⟩) (Kd.R_types HO374.out BK385.out (by decide)) (fun _ hk => hk.2) (.int .i64 t378)) (fun _ hk => hk.2) (.int .i64 t379)) (fun _ hk => hk.2) (.int .i64 t380)) (fun _ hk => hk.2) (.slice Ao23 t381.length co23)) (fun _ h_ => h_.1))))) (Kd.R_lt (by (with_reducible repeat (first | apply Kd.R_alloc | apply Kd.R_drewN | apply Kd.R_drew)); exact (Kd.R_mono (Kd.R_far (p := ⟨gb385, 3, none⟩) (Kd.R_far (p := ⟨gb385, 2, none⟩) (Kd.R_far (p := ⟨gb385, 1, none⟩) (Kd.R_far (p := ⟨gb385, 0, none⟩) (Kd.R_types HO377.out BK385.out (by decide)) (fun _ hk => hk.2) (.int .i64 t378)) (fun _ hk => hk.2) (.int .i64 t379)) (fun _ hk => hk.2) (.int .i64 t380)) (fun _ hk => hk.2) (.slice Ao23 t381.length co23)) (fun _ h_ => h_.1))))) (Kd.R_lt (by (with_reducible repeat (first | apply Kd.R_alloc | apply Kd.R_drewN | apply Kd.R_drew)); exact (Kd.R_mono (Kd.R_far (p := ⟨gb385, 3, none⟩) (Kd.R_far (p := ⟨gb385, 2, none⟩) (Kd.R_far (p := ⟨gb385, 1, none⟩) (Kd.R_far (p := ⟨gb385, 0, none⟩) (Kd.R_types HO383.out BK385.out (by decide)) (fun _ hk => hk.2) (.int .i64 t378)) (fun _ hk => hk.2) (.int .i64 t379)) (fun _ hk => hk.2) (.int .i64 t380)) (fun _ hk => hk.2) (.slice Ao23 t381.length co23)) (fun _ h_ => h_.1))))) (below_size (by repeat (first | (with_reducible first | exact HB.out | apply below_alloc | apply pw_below_drewN | apply below_drew1 | refine below_set ?_ GE369.out | refine below_set ?_ GE385.out) | exact HB.out)))); have n5_ := Aside0.mk (blk_below (g := gb369) (o := .cells #[.int .i64 a0_0, .slice A0_1 l0_1.length c0_1, .slice A0_2 l0_2.length c0_2] 31 (0, 0)) (by (with_reducible repeat (first | refine blk_drewN ?_ _ | refine blk_drew ?_ | refine blk_alloc ?_ _)); refine blk_far ?_ NB369_385.out _; (with_reducible repeat (first | refine blk_drewN ?_ _ | refine blk_drew ?_ | refine blk_alloc ?_ _)); refine blk_far ?_ NB369_385.out _; (with_reducible repeat (first | refine blk_drewN ?_ _ | refine blk_drew ?_ | refine blk_alloc ?_ _)); refine blk_far ?_ NB369_385.out _; (with_reducible repeat (first | refine blk_drewN ?_ _ | refine blk_drew ?_ | refine blk_alloc ?_ _)); refine blk_far ?_ NB369_385.out _; (with_reducible repeat (first | refine blk_drewN ?_ _ | refine blk_drew ?_ | refine blk_alloc ?_ _)); exact BK369.out) hb); have n6_ := Aside0.mk (blk_below (g := gb385) (o := .cells #[.int .i64 t378, .int .i64 t379, .int .i64 t380, .slice Ao23 t381.length co23] 27 (0, 0)) (by (with_reducible repeat (first | refine blk_drewN ?_ _ | refine blk_drew ?_ | refine blk_alloc ?_ _)); refine blk_put (cs := #[.int .i64 t378, .int .i64 t379, .int .i64 t380, .slice none 0 0]) ?_ 3 _ rfl; (with_reducible repeat (first | refine blk_drewN ?_ _ | refine blk_drew ?_ | refine blk_alloc ?_ _)); refine blk_put (cs := #[.int .i64 t378, .int .i64 t379, .int .i64 0, .slice none 0 0]) ?_ 2 _ rfl; (with_reducible repeat (first | refine blk_drewN ?_ _ | refine blk_drew ?_ | refine blk_alloc ?_ _)); refine blk_put (cs := #[.int .i64 t378, .int .i64 0, .int .i64 0, .slice none 0 0]) ?_ 1 _ rfl; (with_reducible repeat (first | refine blk_drewN ?_ _ | refine blk_drew ?_ | refine blk_alloc ?_ _)); refine blk_put (cs := #[.int .i64 0, .int .i64 0, .int .i64 0, .slice none 0 0]) ?_ 0 _ rfl; (with_reducible repeat (first | refine blk_drewN ?_ _ | refine blk_drew ?_ | refine blk_alloc ?_ _)); exact BK385.out) hb); have n7_ := Aside0.mk (below_step (by repeat (first | (with_reducible first | exact HB.out | apply below_alloc | apply pw_below_drewN | apply below_drew1 | refine below_set ?_ GE369.out | refine below_set ?_ GE385.out) | exact HB.out)) hb); clear HO374; clear HO377; clear HO383; clear BK369; clear BK385; clear HB; have HO374 := n0_; have HO377 := n1_; have HO383 := n2_; have HO389 := n3_; have HO392 := n4_; have BK369 := n5_; have BK385 := n6_; have HB := n7_; clear n0_ n1_ n2_ n3_ n4_ n5_ n6_ n7_; (try clear hb); (try clear hb2); (try clear hk); (try clear hi); (try clear ho0); (try clear ho1)) | ((with_reducible refine gate_dst (N := 6) rfl ?_); refine box_event ?hg (N := 6) ?hd (cs := #[.int .i64 0, .slice none 0 0, .slice none 0 0]) (t := 34) ?hr ?_; (case hd => rfl); (case hg => rfl); (case hr => first | (go_simp; done) | (go_simp; rfl)); intro gb393 hg w26 hbox hb; have n0_ := Aside0.mk (Kd.R_below (by (with_reducible repeat (first | apply Kd.R_alloc | apply Kd.R_drewN | apply Kd.R_drew)); exact HO374.out) hb); have n1_ := Aside0.mk (Kd.R_below (by (with_reducible repeat (first | apply Kd.R_alloc | apply Kd.R_drewN | apply Kd.R_drew)); exact HO377.out) hb); have n2_ := Aside0.mk (Kd.R_below (by (with_reducible repeat (first | apply Kd.R_alloc | apply Kd.R_drewN | apply Kd.R_drew)); exact HO383.out) hb); have n3_ := Aside0.mk (Kd.R_below (by (with_reducible repeat (first | apply Kd.R_alloc | apply Kd.R_drewN | apply Kd.R_drew)); exact HO389.out) hb); have n4_ := Aside0.mk (Kd.R_below (by (with_reducible repeat (first | apply Kd.R_alloc | apply Kd.R_drewN | apply Kd.R_drew)); exact HO392.out) hb); have n5_ := Aside0.mk (blk_below (g := gb369) (o := .cells #[.int .i64 a0_0, .slice A0_1 l0_1.length c0_1, .slice A0_2 l0_2.length c0_2] 31 (0, 0)) (by (with_reducible repeat (first | refine blk_drewN ?_ _ | refine blk_drew ?_ | refine blk_alloc ?_ _)); exact BK369.out) hb); have n6_ := Aside0.mk (blk_below (g := gb385) (o := .cells #[.int .i64 t378, .int .i64 t379, .int .i64 t380, .slice Ao23 t381.length co23] 27 (0, 0)) (by (with_reducible repeat (first | refine blk_drewN ?_ _ | refine blk_drew ?_ | refine blk_alloc ?_ _)); exact BK385.out) hb); have n7_ := Aside0.mk (below_step (by repeat (first | (with_reducible first | exact HB.out | apply below_alloc | apply pw_below_drewN | apply below_drew1 | refine below_set ?_ GE369.out | refine below_set ?_ GE385.out) | exact HB.out)) hb); have n8_ := Aside0.mk (hbox); have n9_ := Aside0.mk ((by rw [hg]; exact (below_size (by repeat (first | (with_reducible first | exact HB.out | apply below_alloc | apply pw_below_drewN | apply below_drew1 | refine below_set ?_ GE369.out | refine below_set ?_ GE385.out) | exact HB.out))) : w.heap.size ≤ gb393)); have n10_ := Aside0.mk ((by rw [hg]; exact (below_size (by repeat (first | (with_reducible first | exact HB.out | apply below_alloc | apply pw_below_drewN | apply below_drew1 | refine below_set ?_ GE369.out | refine below_set ?_ GE385.out) | exact HB.out))) : w.heap.size ≤ gb393)); have n11_ := Aside0.mk ((by rw [hg]; exact Nat.ne_of_lt (blk_lt (g := gb369) (o := .cells #[.int .i64 a0_0, .slice A0_1 l0_1.length c0_1, .slice A0_2 l0_2.length c0_2] 31 (0, 0)) (by (with_reducible repeat (first | refine blk_drewN ?_ _ | refine blk_drew ?_ | refine blk_alloc ?_ _)); exact BK369.out)) : gb369 ≠ gb393)); have n12_ := Aside0.mk ((by rw [hg]; exact Nat.ne_of_gt (blk_lt (g := gb369) (o := .cells #[.int .i64 a0_0, .slice A0_1 l0_1.length c0_1, .slice A0_2 l0_2.length c0_2] 31 (0, 0)) (by (with_reducible repeat (first | refine blk_drewN ?_ _ | refine blk_drew ?_ | refine blk_alloc ?_ _)); exact BK369.out)) : gb393 ≠ gb369)); have n13_ := Aside0.mk ((by rw [hg]; exact Nat.ne_of_lt (blk_lt (g := gb385) (o := .cells #[.int .i64 t378, .int .i64 t379, .int .i64 t380, .slice Ao23 t381.length co23] 27 (0, 0)) (by (with_reducible repeat (first | refine blk_drewN ?_ _ | refine blk_drew ?_ | refine blk_alloc ?_ _)); exact BK385.out)) : gb385 ≠ gb393)); have n14_ := Aside0.mk ((by rw [hg]; exact Nat.ne_of_gt (blk_lt (g := gb385) (o := .cells #[.int .i64 t378, .int .i64 t379, .int .i64 t380, .slice Ao23 t381.length co23] 27 (0, 0)) (by (with_reducible repeat (first | refine blk_drewN ?_ _ | refine blk_drew ?_ | refine blk_alloc ?_ _)); exact BK385.out)) : gb393 ≠ gb385)); clear HO374; clear HO377; clear HO383; clear HO389; clear HO392; clear BK369; clear BK385; clear HB; have HO374 := n0_; have HO377 := n1_; have HO383 := n2_; have HO389 := n3_; have HO392 := n4_; have BK369 := n5_; have BK385 := n6_; have HB := n7_; have BK393 := n8_; have GW393 := n9_; have GE393 := n10_; have NB369_393 := n11_; have NB393_369 := n12_; have NB385_393 := n13_; have NB393_385 := n14_; clear n0_ n1_ n2_ n3_ n4_ n5_ n6_ n7_ n8_ n9_ n10_ n11_ n12_ n13_ n14_; clear hb hbox hg; have hnb27 := NB393_369.out; have hnc27 := NB369_393.out; have hnb28 := NB393_385.out; have hnc28 := NB385_393.out; have hcz29_0 : w26.cell? ⟨gb393, 0, none⟩ = some (.int .i64 0) := (blk_cell BK393.out 0).trans rfl; have hcz29_1 : w26.cell? ⟨gb393, 1, none⟩ = some (.slice none 0 0) := (blk_cell BK393.out 1).trans rfl; have hcz29_2 : w26.cell? ⟨gb393, 2, none⟩ = some (.slice none 0 0) := (blk_cell BK393.out 2).trans rfl; have hfz29_0 := blk_frozen BK393.out 0; have hfz29_1 := blk_frozen BK393.out 1; have hfz29_2 := blk_frozen BK393.out 2; obtain ⟨Ao30, co30, eo30⟩ := Kd.R_slice HO389.out; subst eo30; obtain ⟨Ao31, co31, eo31⟩ := Kd.R_slice HO392.out; subst eo31) | ((with_reducible refine gate_callee (f := 24) rfl ?_); refine goesL_ (some 29) rfl rfl Try.func24 (by kernel_rfl) rfl #[.agg #[.int .i64 t386, .slice Ao30 t387.length co30, .slice Ao31 t390.length co31]] rfl (by (try simp only [List.map_toArray, List.map_cons, List.map_nil]); first | done | rfl | (simp only [List.length_drop, List.length_take]; rfl)) ?_; (with_reducible refine (impl_IncidenceMatrix.calls k t386 _ _ t387 _ _ t390 t394 t395 t396 t397 t400 _ ?side1 ?side2 ?side3 ?side4 A10.out).mono ?_); (case side1 => refine (Kd.R_reads' (e := 3) (base := w.heap.size) (ok := fun k_ => (((some k_ ≠ (.slice Ao31 t390.length co31 : Value).ownBlock ∧ some k_ ≠ (.slice Ao17 t372.length co17 : Value).ownBlock) ∧ some k_ ≠ (.slice Ao18 t375.length co18 : Value).ownBlock) ∧ some k_ ≠ (.slice Ao23 t381.length co23 : Value).ownBlock)) (n := t387.length) (c := co30) ?_).2.2; exact (by (with_reducible repeat (first | apply Kd.R_alloc | apply Kd.R_drewN | apply Kd.R_drew)); exact (Kd.R_mono (Kd.R_far (p := ⟨gb393, 2, none⟩) (Kd.R_far (p := ⟨gb393, 1, none⟩) (Kd.R_far (p := ⟨gb393, 0, none⟩) (Kd.R_types HO389.out BK393.out (by decide)) (fun _ hk => hk.2) (.int .i64 t386)) (fun _ hk => hk.2) (.slice Ao30 t387.length co30)) (fun _ hk => hk.2) (.slice Ao31 t390.length co31)) (fun _ h_ => h_.1)))); (case side2 => exact (Kd.R_reads' HO389.out).2.1); (case side3 => refine (Kd.R_reads' (e := 3) (base := w.heap.size) (ok := fun k_ => (((some k_ ≠ (.slice Ao30 t387.length co30 : Value).ownBlock ∧ some k_ ≠ (.slice Ao17 t372.length co17 : Value).ownBlock) ∧ some k_ ≠ (.slice Ao18 t375.length co18 : Value).ownBlock) ∧ some k_ ≠ (.slice Ao23 t381.length co23 : Value).ownBlock)) (n := t390.length) (c := co31) ?_).2.2; exact (by (with_reducible repeat (first | apply Kd.R_alloc | apply Kd.R_drewN | apply Kd.R_drew)); exact (Kd.R_mono (Kd.R_far (p := ⟨gb393, 2, none⟩) (Kd.R_far (p := ⟨gb393, 1, none⟩) (Kd.R_far (p := ⟨gb393, 0, none⟩) (Kd.R_types HO392.out BK393.out (by decide)) (fun _ hk => hk.2) (.int .i64 t386)) (fun _ hk => hk.2) (.slice Ao30 t387.length co30)) (fun _ hk => hk.2) (.slice Ao31 t390.length co31)) (fun _ h_ => h_.1)))); (case side4 => exact (Kd.R_reads' HO392.out).2.1); rintro e w32 ⟨v398, rfl, ho0, hb⟩; refine ⟨_, rfl, ?_⟩; have n0_ := Aside0.mk (Kd.R_elder' (by (with_reducible repeat (first | apply Kd.R_alloc | apply Kd.R_drewN | apply Kd.R_drew)); exact (Kd.R_mono (Kd.R_far (p := ⟨gb393, 2, none⟩) (Kd.R_far (p := ⟨gb393, 1, none⟩) (Kd.R_far (p := ⟨gb393, 0, none⟩) (Kd.R_types HO374.out BK393.out (by decide)) (fun _ hk => hk.2) (.int .i64 t386)) (fun _ hk => hk.2) (.slice Ao30 t387.length co30)) (fun _ hk => hk.2) (.slice Ao31 t390.length co31)) (fun _ h_ => h_.1))) (Kd.R_base ho0) hb); have n1_ := Aside0.mk (Kd.R_elder' (by (with_reducible repeat (first | apply Kd.R_alloc | apply Kd.R_drewN | apply Kd.R_drew)); exact (Kd.R_mono (Kd.R_far (p := ⟨gb393, 2, none⟩) (Kd.R_far (p := ⟨gb393, 1, none⟩) (Kd.R_far (p := ⟨gb393, 0, none⟩) (Kd.R_types HO377.out BK393.out (by decide)) (fun _ hk => hk.2) (.int .i64 t386)) (fun _ hk => hk.2) (.slice Ao30 t387.length co30)) (fun _ hk => hk.2) (.slice Ao31 t390.length co31)) (fun _ h_ => h_.1))) (Kd.R_base ho0) hb); have n2_ := Aside0.mk (Kd.R_elder' (by (with_reducible repeat (first | apply Kd.R_alloc | apply Kd.R_drewN | apply Kd.R_drew)); exact (Kd.R_mono (Kd.R_far (p := ⟨gb393, 2, none⟩) (Kd.R_far (p := ⟨gb393, 1, none⟩) (Kd.R_far (p := ⟨gb393, 0, none⟩) (Kd.R_types HO383.out BK393.out (by decide)) (fun _ hk => hk.2) (.int .i64 t386)) (fun _ hk => hk.2) (.slice Ao30 t387.length co30)) (fun _ hk => hk.2) (.slice Ao31 t390.length co31)) (fun _ h_ => h_.1))) (Kd.R_base ho0) hb); have n3_ := Aside0.mk (Kd.R_elder' (by (with_reducible repeat (first | apply Kd.R_alloc | apply Kd.R_drewN | apply Kd.R_drew)); exact (Kd.R_mono (Kd.R_far (p := ⟨gb393, 2, none⟩) (Kd.R_far (p := ⟨gb393, 1, none⟩) (Kd.R_far (p := ⟨gb393, 0, none⟩) (Kd.R_types HO389.out BK393.out (by decide)) (fun _ hk => hk.2) (.int .i64 t386)) (fun _ hk => hk.2) (.slice Ao30 t387.length co30)) (fun _ hk => hk.2) (.slice Ao31 t390.length co31)) (fun _ h_ => h_.1))) (Kd.R_base ho0) hb); have n4_ := Aside0.mk (Kd.R_elder' (by (with_reducible repeat (first | apply Kd.R_alloc | apply Kd.R_drewN | apply Kd.R_drew)); exact (Kd.R_mono (Kd.R_far (p := ⟨gb393, 2, none⟩) (Kd.R_far (p := ⟨gb393, 1, none⟩) (Kd.R_far (p := ⟨gb393, 0, none⟩) (Kd.R_types HO392.out BK393.out (by decide)) (fun _ hk => hk.2) (.int .i64 t386)) (fun _ hk => hk.2) (.slice Ao30 t387.length co30)) (fun _ hk => hk.2) (.slice Ao31 t390.length co31)) (fun _ h_ => h_.1))) (Kd.R_base ho0) hb); have n5_ := Aside0.mk (Kd.R_lower (Kd.R_new' (Kd.R_new' (Kd.R_new' (Kd.R_new' (Kd.R_new' ho0 (Kd.R_lt (by (with_reducible repeat (first | apply Kd.R_alloc | apply Kd.R_drewN | apply Kd.R_drew)); exact (Kd.R_mono (Kd.R_far (p := ⟨gb393, 2, none⟩) (Kd.R_far (p := ⟨gb393, 1, none⟩) (Kd.R_far (p := ⟨gb393, 0, none⟩) (Kd.R_types HO374.out BK393.out (by decide)) (fun _ hk => hk.2) (.int .i64 t386)) (fun _ hk => hk.2) (.slice Ao30 t387.length co30)) (fun _ hk => hk.2) (.slice Ao31 t390.length co31)) (fun _ h_ => h_.1))))) (Kd.R_lt (by (with_reducible repeat (first | apply Kd.R_alloc | apply Kd.R_drewN | apply Kd.R_drew)); exact (Kd.R_mono (Kd.R_far (p := ⟨gb393, 2, none⟩) (Kd.R_far (p := ⟨gb393, 1, none⟩) (Kd.R_far (p := ⟨gb393, 0, none⟩) (Kd.R_types HO377.out BK393.out (by decide)) (fun _ hk => hk.2) (.int .i64 t386)) (fun _ hk => hk.2) (.slice Ao30 t387.length co30)) (fun _ hk => hk.2) (.slice Ao31 t390.length co31)) (fun _ h_ => h_.1))))) (Kd.R_lt (by (with_reducible repeat (first | apply Kd.R_alloc | apply Kd.R_drewN | apply Kd.R_drew)); exact (Kd.R_mono (Kd.R_far (p := ⟨gb393, 2, none⟩) (Kd.R_far (p := ⟨gb393, 1, none⟩) (Kd.R_far (p := ⟨gb393, 0, none⟩) (Kd.R_types HO383.out BK393.out (by decide)) (fun _ hk => hk.2) (.int .i64 t386)) (fun _ hk => hk.2) (.slice Ao30 t387.length co30)) (fun _ hk => hk.2) (.slice Ao31 t390.length co31)) (fun _ h_ => h_.1))))) (Kd.R_lt (by (with_reducible repeat (first | apply Kd.R_alloc | apply Kd.R_drewN | apply Kd.R_drew)); exact (Kd.R_mono (Kd.R_far (p := ⟨gb393, 2, none⟩) (Kd.R_far (p := ⟨gb393, 1, none⟩) (Kd.R_far (p := ⟨gb393, 0, none⟩) (Kd.R_types HO389.out BK393.out (by decide)) (fun _ hk => hk.2) (.int .i64 t386)) (fun _ hk => hk.2) (.slice Ao30 t387.length co30)) (fun _ hk => hk.2) (.slice Ao31 t390.length co31)) (fun _ h_ => h_.1))))) (Kd.R_lt (by (with_reducible repeat (first | apply Kd.R_alloc | apply Kd.R_drewN | apply Kd.R_drew)); exact (Kd.R_mono (Kd.R_far (p := ⟨gb393, 2, none⟩) (Kd.R_far (p := ⟨gb393, 1, none⟩) (Kd.R_far (p := ⟨gb393, 0, none⟩) (Kd.R_types HO392.out BK393.out (by decide)) (fun _ hk => hk.2) (.int .i64 t386)) (fun _ hk => hk.2) (.slice Ao30 t387.length co30)) (fun _ hk => hk.2) (.slice Ao31 t390.length co31)) (fun _ h_ => h_.1))))) (below_size (by repeat (first | (with_reducible first | exact HB.out | apply below_alloc | apply pw_below_drewN | apply below_drew1 | refine below_set ?_ GE369.out | refine below_set ?_ GE385.out | refine below_set ?_ GE393.out) | exact HB.out)))); have n6_ := Aside0.mk (blk_below (g := gb369) (o := .cells #[.int .i64 a0_0, .slice A0_1 l0_1.length c0_1, .slice A0_2 l0_2.length c0_2] 31 (0, 0)) (by (with_reducible repeat (first | refine blk_drewN ?_ _ | refine blk_drew ?_ | refine blk_alloc ?_ _)); refine blk_far ?_ NB369_393.out _; (with_reducible repeat (first | refine blk_drewN ?_ _ | refine blk_drew ?_ | refine blk_alloc ?_ _)); refine blk_far ?_ NB369_393.out _; (with_reducible repeat (first | refine blk_drewN ?_ _ | refine blk_drew ?_ | refine blk_alloc ?_ _)); refine blk_far ?_ NB369_393.out _; (with_reducible repeat (first | refine blk_drewN ?_ _ | refine blk_drew ?_ | refine blk_alloc ?_ _)); exact BK369.out) hb); have n7_ := Aside0.mk (blk_below (g := gb385) (o := .cells #[.int .i64 t378, .int .i64 t379, .int .i64 t380, .slice Ao23 t381.length co23] 27 (0, 0)) (by (with_reducible repeat (first | refine blk_drewN ?_ _ | refine blk_drew ?_ | refine blk_alloc ?_ _)); refine blk_far ?_ NB385_393.out _; (with_reducible repeat (first | refine blk_drewN ?_ _ | refine blk_drew ?_ | refine blk_alloc ?_ _)); refine blk_far ?_ NB385_393.out _; (with_reducible repeat (first | refine blk_drewN ?_ _ | refine blk_drew ?_ | refine blk_alloc ?_ _)); refine blk_far ?_ NB385_393.out _; (with_reducible repeat (first | refine blk_drewN ?_ _ | refine blk_drew ?_ | refine blk_alloc ?_ _)); exact BK385.out) hb); have n8_ := Aside0.mk (blk_below (g := gb393) (o := .cells #[.int .i64 t386, .slice Ao30 t387.length co30, .slice Ao31 t390.length co31] 34 (0, 0)) (by (with_reducible repeat (first | refine blk_drewN ?_ _ | refine blk_drew ?_ | refine blk_alloc ?_ _)); refine blk_put (cs := #[.int .i64 t386, .slice Ao30 t387.length co30, .slice none 0 0]) ?_ 2 _ rfl; (with_reducible repeat (first | refine blk_drewN ?_ _ | refine blk_drew ?_ | refine blk_alloc ?_ _)); refine blk_put (cs := #[.int .i64 t386, .slice none 0 0, .slice none 0 0]) ?_ 1 _ rfl; (with_reducible repeat (first | refine blk_drewN ?_ _ | refine blk_drew ?_ | refine blk_alloc ?_ _)); refine blk_put (cs := #[.int .i64 0, .slice none 0 0, .slice none 0 0]) ?_ 0 _ rfl; (with_reducible repeat (first | refine blk_drewN ?_ _ | refine blk_drew ?_ | refine blk_alloc ?_ _)); exact BK393.out) hb); have n9_ := Aside0.mk (below_step (by repeat (first | (with_reducible first | exact HB.out | apply below_alloc | apply pw_below_drewN | apply below_drew1 | refine below_set ?_ GE369.out | refine below_set ?_ GE385.out | refine below_set ?_ GE393.out) | exact HB.out)) hb); clear HO374; clear HO377; clear HO383; clear HO389; clear HO392; clear BK369; clear BK385; clear BK393; clear HB; have HO374 := n0_; have HO377 := n1_; have HO383 := n2_; have HO389 := n3_; have HO392 := n4_; have HO399 := n5_; have BK369 := n6_; have BK385 := n7_; have BK393 := n8_; have HB := n9_; clear n0_ n1_ n2_ n3_ n4_ n5_ n6_ n7_ n8_ n9_; (try clear hb); (try clear hb2); (try clear hk); (try clear hi); (try clear ho0)) | ((with_reducible refine gate_dst (N := 7) rfl ?_); refine box_event ?hg (N := 7) ?hd (cs := #[.int .i64 0, .int .i64 0, .int .i64 0, .slice none 0 0]) (t := 27) ?hr ?_; (case hd => rfl); (case hg => rfl); (case hr => first | (go_simp; done) | (go_simp; rfl)); intro gb401 hg w33 hbox hb; have n0_ := Aside0.mk (Kd.R_below (by (with_reducible repeat (first | apply Kd.R_alloc | apply Kd.R_drewN | apply Kd.R_drew)); exact HO374.out) hb); have n1_ := Aside0.mk (Kd.R_below (by (with_reducible repeat (first | apply Kd.R_alloc | apply Kd.R_drewN | apply Kd.R_drew)); exact HO377.out) hb); have n2_ := Aside0.mk (Kd.R_below (by (with_reducible repeat (first | apply Kd.R_alloc | apply Kd.R_drewN | apply Kd.R_drew)); exact HO383.out) hb); have n3_ := Aside0.mk (Kd.R_below (by (with_reducible repeat (first | apply Kd.R_alloc | apply Kd.R_drewN | apply Kd.R_drew)); exact HO389.out) hb); have n4_ := Aside0.mk (Kd.R_below (by (with_reducible repeat (first | apply Kd.R_alloc | apply Kd.R_drewN | apply Kd.R_drew)); exact HO392.out) hb); have n5_ := Aside0.mk (Kd.R_below (by (with_reducible repeat (first | apply Kd.R_alloc | apply Kd.R_drewN | apply Kd.R_drew)); exact HO399.out) hb); have n6_ := Aside0.mk (blk_below (g := gb369) (o := .cells #[.int .i64 a0_0, .slice A0_1 l0_1.length c0_1, .slice A0_2 l0_2.length c0_2] 31 (0, 0)) (by (with_reducible repeat (first | refine blk_drewN ?_ _ | refine blk_drew ?_ | refine blk_alloc ?_ _)); exact BK369.out) hb); have n7_ := Aside0.mk (blk_below (g := gb385) (o := .cells #[.int .i64 t378, .int .i64 t379, .int .i64 t380, .slice Ao23 t381.length co23] 27 (0, 0)) (by (with_reducible repeat (first | refine blk_drewN ?_ _ | refine blk_drew ?_ | refine blk_alloc ?_ _)); exact BK385.out) hb); have n8_ := Aside0.mk (blk_below (g := gb393) (o := .cells #[.int .i64 t386, .slice Ao30 t387.length co30, .slice Ao31 t390.length co31] 34 (0, 0)) (by (with_reducible repeat (first | refine blk_drewN ?_ _ | refine blk_drew ?_ | refine blk_alloc ?_ _)); exact BK393.out) hb); have n9_ := Aside0.mk (below_step (by repeat (first | (with_reducible first | exact HB.out | apply below_alloc | apply pw_below_drewN | apply below_drew1 | refine below_set ?_ GE369.out | refine below_set ?_ GE385.out | refine below_set ?_ GE393.out) | exact HB.out)) hb); have n10_ := Aside0.mk (hbox); have n11_ := Aside0.mk ((by rw [hg]; exact (below_size (by repeat (first | (with_reducible first | exact HB.out | apply below_alloc | apply pw_below_drewN | apply below_drew1 | refine below_set ?_ GE369.out | refine below_set ?_ GE385.out | refine below_set ?_ GE393.out) | exact HB.out))) : w.heap.size ≤ gb401)); have n12_ := Aside0.mk ((by rw [hg]; exact (below_size (by repeat (first | (with_reducible first | exact HB.out | apply below_alloc | apply pw_below_drewN | apply below_drew1 | refine below_set ?_ GE369.out | refine below_set ?_ GE385.out | refine below_set ?_ GE393.out) | exact HB.out))) : w.heap.size ≤ gb401)); have n13_ := Aside0.mk ((by rw [hg]; exact Nat.ne_of_lt (blk_lt (g := gb369) (o := .cells #[.int .i64 a0_0, .slice A0_1 l0_1.length c0_1, .slice A0_2 l0_2.length c0_2] 31 (0, 0)) (by (with_reducible repeat (first | refine blk_drewN ?_ _ | refine blk_drew ?_ | refine blk_alloc ?_ _)); exact BK369.out)) : gb369 ≠ gb401)); have n14_ := Aside0.mk ((by rw [hg]; exact Nat.ne_of_gt (blk_lt (g := gb369) (o := .cells #[.int .i64 a0_0, .slice A0_1 l0_1.length c0_1, .slice A0_2 l0_2.length c0_2] 31 (0, 0)) (by (with_reducible repeat (first | refine blk_drewN ?_ _ | refine blk_drew ?_ | refine blk_alloc ?_ _)); exact BK369.out)) : gb401 ≠ gb369)); have n15_ := Aside0.mk ((by rw [hg]; exact Nat.ne_of_lt (blk_lt (g := gb385) (o := .cells #[.int .i64 t378, .int .i64 t379, .int .i64 t380, .slice Ao23 t381.length co23] 27 (0, 0)) (by (with_reducible repeat (first | refine blk_drewN ?_ _ | refine blk_drew ?_ | refine blk_alloc ?_ _)); exact BK385.out)) : gb385 ≠ gb401)); have n16_ := Aside0.mk ((by rw [hg]; exact Nat.ne_of_gt (blk_lt (g := gb385) (o := .cells #[.int .i64 t378, .int .i64 t379, .int .i64 t380, .slice Ao23 t381.length co23] 27 (0, 0)) (by (with_reducible repeat (first | refine blk_drewN ?_ _ | refine blk_drew ?_ | refine blk_alloc ?_ _)); exact BK385.out)) : gb401 ≠ gb385)); have n17_ := Aside0.mk ((by rw [hg]; exact Nat.ne_of_lt (blk_lt (g := gb393) (o := .cells #[.int .i64 t386, .slice Ao30 t387.length co30, .slice Ao31 t390.length co31] 34 (0, 0)) (by (with_reducible repeat (first | refine blk_drewN ?_ _ | refine blk_drew ?_ | refine blk_alloc ?_ _)); exact BK393.out)) : gb393 ≠ gb401)); have n18_ := Aside0.mk ((by rw [hg]; exact Nat.ne_of_gt (blk_lt (g := gb393) (o := .cells #[.int .i64 t386, .slice Ao30 t387.length co30, .slice Ao31 t390.length co31] 34 (0, 0)) (by (with_reducible repeat (first | refine blk_drewN ?_ _ | refine blk_drew ?_ | refine blk_alloc ?_ _)); exact BK393.out)) : gb401 ≠ gb393)); clear HO374; clear HO377; clear HO383; clear HO389; clear HO392; clear HO399; clear BK369; clear BK385; clear BK393; clear HB; have HO374 := n0_; have HO377 := n1_; have HO383 := n2_; have HO389 := n3_; have HO392 := n4_; have HO399 := n5_; have BK369 := n6_; have BK385 := n7_; have BK393 := n8_; have HB := n9_; have BK401 := n10_; have GW401 := n11_; have GE401 := n12_; have NB369_401 := n13_; have NB401_369 := n14_; have NB385_401 := n15_; have NB401_385 := n16_; have NB393_401 := n17_; have NB401_393 := n18_; clear n0_ n1_ n2_ n3_ n4_ n5_ n6_ n7_ n8_ n9_ n10_ n11_ n12_ n13_ n14_ n15_ n16_ n17_ n18_; clear hb hbox hg; have hnb34 := NB401_369.out; have hnc34 := NB369_401.out; have hnb35 := NB401_385.out; have hnc35 := NB385_401.out; have hnb36 := NB401_393.out; have hnc36 := NB393_401.out; have hcz37_0 : w33.cell? ⟨gb401, 0, none⟩ = some (.int .i64 0) := (blk_cell BK401.out 0).trans rfl; have hcz37_1 : w33.cell? ⟨gb401, 1, none⟩ = some (.int .i64 0) := (blk_cell BK401.out 1).trans rfl; have hcz37_2 : w33.cell? ⟨gb401, 2, none⟩ = some (.int .i64 0) := (blk_cell BK401.out 2).trans rfl; have hcz37_3 : w33.cell? ⟨gb401, 3, none⟩ = some (.slice none 0 0) := (blk_cell BK401.out 3).trans rfl; have hfz37_0 := blk_frozen BK401.out 0; have hfz37_1 := blk_frozen BK401.out 1; have hfz37_2 := blk_frozen BK401.out 2; have hfz37_3 := blk_frozen BK401.out 3; obtain ⟨Ao38, co38, eo38⟩ := Kd.R_slice HO399.out; subst eo38))
    (try simp only [Act.put, List.setIfInBounds_toArray, List.set_cons_zero, List.set_cons_succ])
    go_cut [40] (fun v40 wc => ∃ (kq : Nat) (x40_10 : Bool), v40 = .bool x40_10 ∧ Aside0 (laws_FnExactIncidenceMatrix.j0 kq t384 t400 x40_10 a0_0 l0_1 l0_2 t378 t379 t380 t381 t386 t387 t390 t394 t395 t396 t397 = some r) ∧ Aside0 (kq ≤ k) ∧ Aside0 (Kd.R (Kd.int .i64) 3 wc w.heap.size (fun k_ => some k_ ≠ ((.slice Ao30 t387.length co30) : Value).ownBlock ∧ some k_ ≠ ((.slice Ao31 t390.length co31) : Value).ownBlock ∧ some k_ ≠ ((.slice Ao38 t397.length co38) : Value).ownBlock) (.slice Ao23 t381.length co23) t381) ∧ Aside0 (Kd.R (Kd.int .i64) 3 wc w.heap.size (fun k_ => some k_ ≠ ((.slice Ao23 t381.length co23) : Value).ownBlock ∧ some k_ ≠ ((.slice Ao31 t390.length co31) : Value).ownBlock ∧ some k_ ≠ ((.slice Ao38 t397.length co38) : Value).ownBlock) (.slice Ao30 t387.length co30) t387) ∧ Aside0 (Kd.R (Kd.int .i64) 3 wc w.heap.size (fun k_ => some k_ ≠ ((.slice Ao23 t381.length co23) : Value).ownBlock ∧ some k_ ≠ ((.slice Ao30 t387.length co30) : Value).ownBlock ∧ some k_ ≠ ((.slice Ao38 t397.length co38) : Value).ownBlock) (.slice Ao31 t390.length co31) t390) ∧ Aside0 (Kd.R (Kd.int .i64) 3 wc w.heap.size (fun k_ => some k_ ≠ ((.slice Ao23 t381.length co23) : Value).ownBlock ∧ some k_ ≠ ((.slice Ao30 t387.length co30) : Value).ownBlock ∧ some k_ ≠ ((.slice Ao31 t390.length co31) : Value).ownBlock) (.slice Ao38 t397.length co38) t397) ∧ Aside0 (wc.heap[gb369]? = some (.cells #[.int .i64 a0_0, (.slice A0_1 l0_1.length c0_1), (.slice A0_2 l0_2.length c0_2)] 31 (0, 0))) ∧ Aside0 (wc.heap[gb385]? = some (.cells #[.int .i64 t378, .int .i64 t379, .int .i64 t380, (.slice Ao23 t381.length co23)] 27 (0, 0))) ∧ Aside0 (wc.heap[gb393]? = some (.cells #[.int .i64 t386, (.slice Ao30 t387.length co30), (.slice Ao31 t390.length co31)] 34 (0, 0))) ∧ Aside0 (wc.heap[gb401]? = some (.cells #[.int .i64 t394, .int .i64 t395, .int .i64 t396, (.slice Ao38 t397.length co38)] 27 (0, 0))) ∧ Aside0 (Below w.heap.size w wc))
    case first =>
      have H := HC11.out
      clear HC11
      replace H := Option.bind_eq_some_iff.mp H
      obtain ⟨t402, A390, H⟩ := H
      replace H : (if t402 = true then (laws_FnExactIncidenceMatrix.j0 k t384 t400 (t400 != t384) a0_0 l0_1 l0_2 t378 t379 t380 t381 t386 t387 t390 t394 t395 t396 t397) else (laws_FnExactIncidenceMatrix.j0 k t384 t400 true a0_0 l0_1 l0_2 t378 t379 t380 t381 t386 t387 t390 t394 t395 t396 t397)) = some r := H
      have A39 := Aside0.mk A390
      clear A390
      by_cases c40 : t402 = true
      · subst c40
        have H1 : (laws_FnExactIncidenceMatrix.j0 k t384 t400 (t400 != t384) a0_0 l0_1 l0_2 t378 t379 t380 t381 t386 t387 t390 t394 t395 t396 t397) = some r := by rw [if_pos rfl] at H; exact H
        clear H
        have H := H1
        clear H1
        have H' := Aside0.mk H
        clear H
        have hnb41 := NB401_369.out
        have hnc41 := NB369_401.out
        have hnb42 := NB401_385.out
        have hnc42 := NB385_401.out
        have hnb43 := NB401_393.out
        have hnc43 := NB393_401.out
        have hcz44_0 : w33.cell? ⟨gb401, 0, none⟩ = some (.int .i64 0) := (blk_cell BK401.out 0).trans rfl
        have hcz44_1 : w33.cell? ⟨gb401, 1, none⟩ = some (.int .i64 0) := (blk_cell BK401.out 1).trans rfl
        have hcz44_2 : w33.cell? ⟨gb401, 2, none⟩ = some (.int .i64 0) := (blk_cell BK401.out 2).trans rfl
        have hcz44_3 : w33.cell? ⟨gb401, 3, none⟩ = some (.slice none 0 0) := (blk_cell BK401.out 3).trans rfl
        have hfz44_0 := blk_frozen BK401.out 0
        have hfz44_1 := blk_frozen BK401.out 1
        have hfz44_2 := blk_frozen BK401.out 2
        have hfz44_3 := blk_frozen BK401.out 3
        have hnb45 := NB385_369.out
        have hnc45 := NB369_385.out
        have hnb46 := NB385_393.out
        have hnc46 := NB393_385.out
        have hcz47_0 : w33.cell? ⟨gb385, 0, none⟩ = some (.int .i64 t378) := (blk_cell BK385.out 0).trans rfl
        have hcz47_1 : w33.cell? ⟨gb385, 1, none⟩ = some (.int .i64 t379) := (blk_cell BK385.out 1).trans rfl
        have hcz47_2 : w33.cell? ⟨gb385, 2, none⟩ = some (.int .i64 t380) := (blk_cell BK385.out 2).trans rfl
        have hcz47_3 : w33.cell? ⟨gb385, 3, none⟩ = some (.slice Ao23 t381.length co23) := (blk_cell BK385.out 3).trans rfl
        have hfz47_0 := blk_frozen BK385.out 0
        have hfz47_1 := blk_frozen BK385.out 1
        have hfz47_2 := blk_frozen BK385.out 2
        have hfz47_3 := blk_frozen BK385.out 3
        go_wp2_with (first | ((with_reducible refine gate_callee (f := 15) rfl ?_); refine goesL_ (some 34) rfl rfl Try.func15 (by kernel_rfl) rfl #[.agg #[.int .i64 t394, .int .i64 t395, .int .i64 t396, .slice Ao38 t397.length co38], .agg #[.int .i64 t378, .int .i64 t379, .int .i64 t380, .slice Ao23 t381.length co23]] rfl (by (try simp only [List.map_toArray, List.map_cons, List.map_nil]); first | done | rfl | (simp only [List.length_drop, List.length_take]; rfl)) ?_; (with_reducible refine (laws_eqMatrix.calls k t394 t395 t396 _ _ t397 t378 t379 t380 _ _ t381 true _ ?side1 ?side2 ?side3 ?side4 A39.out).mono ?_); (case side1 => refine (Kd.R_reads' (e := 3) (base := w.heap.size) (ok := fun k_ => (((((True ∧ some k_ ≠ (.slice Ao17 t372.length co17 : Value).ownBlock) ∧ some k_ ≠ (.slice Ao18 t375.length co18 : Value).ownBlock) ∧ some k_ ≠ (.slice Ao23 t381.length co23 : Value).ownBlock) ∧ some k_ ≠ (.slice Ao30 t387.length co30 : Value).ownBlock) ∧ some k_ ≠ (.slice Ao31 t390.length co31 : Value).ownBlock)) (n := t397.length) (c := co38) ?_).2.2; exact (by (with_reducible repeat (first | apply Kd.R_alloc | apply Kd.R_drewN | apply Kd.R_drew)); exact (Kd.R_mono (Kd.R_far (p := ⟨gb401, 3, none⟩) (Kd.R_far (p := ⟨gb401, 2, none⟩) (Kd.R_far (p := ⟨gb401, 1, none⟩) (Kd.R_far (p := ⟨gb401, 0, none⟩) (Kd.R_types HO399.out BK401.out (by decide)) (fun _ hk => hk.2) (.int .i64 t394)) (fun _ hk => hk.2) (.int .i64 t395)) (fun _ hk => hk.2) (.int .i64 t396)) (fun _ hk => hk.2) (.slice Ao38 t397.length co38)) (fun _ h_ => h_.1)))); (case side2 => exact (Kd.R_reads' HO399.out).2.1); (case side3 => refine (Kd.R_reads' (e := 3) (base := w.heap.size) (ok := fun k_ => (((((True ∧ some k_ ≠ (.slice Ao17 t372.length co17 : Value).ownBlock) ∧ some k_ ≠ (.slice Ao18 t375.length co18 : Value).ownBlock) ∧ some k_ ≠ (.slice Ao30 t387.length co30 : Value).ownBlock) ∧ some k_ ≠ (.slice Ao31 t390.length co31 : Value).ownBlock) ∧ some k_ ≠ (.slice Ao38 t397.length co38 : Value).ownBlock)) (n := t381.length) (c := co23) ?_).2.2; exact (by (with_reducible repeat (first | apply Kd.R_alloc | apply Kd.R_drewN | apply Kd.R_drew)); exact (Kd.R_mono (Kd.R_far (p := ⟨gb401, 3, none⟩) (Kd.R_far (p := ⟨gb401, 2, none⟩) (Kd.R_far (p := ⟨gb401, 1, none⟩) (Kd.R_far (p := ⟨gb401, 0, none⟩) (Kd.R_types HO383.out BK401.out (by decide)) (fun _ hk => hk.2) (.int .i64 t394)) (fun _ hk => hk.2) (.int .i64 t395)) (fun _ hk => hk.2) (.int .i64 t396)) (fun _ hk => hk.2) (.slice Ao38 t397.length co38)) (fun _ h_ => h_.1)))); (case side4 => exact (Kd.R_reads' HO383.out).2.1); rintro e w48 ⟨rfl, hb⟩; refine ⟨_, rfl, ?_⟩; have n0_ := Aside0.mk (Kd.R_below (by (with_reducible repeat (first | apply Kd.R_alloc | apply Kd.R_drewN | apply Kd.R_drew)); exact (Kd.R_mono (Kd.R_far (p := ⟨gb401, 3, none⟩) (Kd.R_far (p := ⟨gb401, 2, none⟩) (Kd.R_far (p := ⟨gb401, 1, none⟩) (Kd.R_far (p := ⟨gb401, 0, none⟩) (Kd.R_types HO374.out BK401.out (by decide)) (fun _ hk => hk.2) (.int .i64 t394)) (fun _ hk => hk.2) (.int .i64 t395)) (fun _ hk => hk.2) (.int .i64 t396)) (fun _ hk => hk.2) (.slice Ao38 t397.length co38)) (fun _ h_ => h_.1))) hb); have n1_ := Aside0.mk (Kd.R_below (by (with_reducible repeat (first | apply Kd.R_alloc | apply Kd.R_drewN | apply Kd.R_drew)); exact (Kd.R_mono (Kd.R_far (p := ⟨gb401, 3, none⟩) (Kd.R_far (p := ⟨gb401, 2, none⟩) (Kd.R_far (p := ⟨gb401, 1, none⟩) (Kd.R_far (p := ⟨gb401, 0, none⟩) (Kd.R_types HO377.out BK401.out (by decide)) (fun _ hk => hk.2) (.int .i64 t394)) (fun _ hk => hk.2) (.int .i64 t395)) (fun _ hk => hk.2) (.int .i64 t396)) (fun _ hk => hk.2) (.slice Ao38 t397.length co38)) (fun _ h_ => h_.1))) hb); have n2_ := Aside0.mk (Kd.R_below (by (with_reducible repeat (first | apply Kd.R_alloc | apply Kd.R_drewN | apply Kd.R_drew)); exact (Kd.R_mono (Kd.R_far (p := ⟨gb401, 3, none⟩) (Kd.R_far (p := ⟨gb401, 2, none⟩) (Kd.R_far (p := ⟨gb401, 1, none⟩) (Kd.R_far (p := ⟨gb401, 0, none⟩) (Kd.R_types HO383.out BK401.out (by decide)) (fun _ hk => hk.2) (.int .i64 t394)) (fun _ hk => hk.2) (.int .i64 t395)) (fun _ hk => hk.2) (.int .i64 t396)) (fun _ hk => hk.2) (.slice Ao38 t397.length co38)) (fun _ h_ => h_.1))) hb); have n3_ := Aside0.mk (Kd.R_below (by (with_reducible repeat (first | apply Kd.R_alloc | apply Kd.R_drewN | apply Kd.R_drew)); exact (Kd.R_mono (Kd.R_far (p := ⟨gb401, 3, none⟩) (Kd.R_far (p := ⟨gb401, 2, none⟩) (Kd.R_far (p := ⟨gb401, 1, none⟩) (Kd.R_far (p := ⟨gb401, 0, none⟩) (Kd.R_types HO389.out BK401.out (by decide)) (fun _ hk => hk.2) (.int .i64 t394)) (fun _ hk => hk.2) (.int .i64 t395)) (fun _ hk => hk.2) (.int .i64 t396)) (fun _ hk => hk.2) (.slice Ao38 t397.length co38)) (fun _ h_ => h_.1))) hb); have n4_ := Aside0.mk (Kd.R_below (by (with_reducible repeat (first | apply Kd.R_alloc | apply Kd.R_drewN | apply Kd.R_drew)); exact (Kd.R_mono (Kd.R_far (p := ⟨gb401, 3, none⟩) (Kd.R_far (p := ⟨gb401, 2, none⟩) (Kd.R_far (p := ⟨gb401, 1, none⟩) (Kd.R_far (p := ⟨gb401, 0, none⟩) (Kd.R_types HO392.out BK401.out (by decide)) (fun _ hk => hk.2) (.int .i64 t394)) (fun _ hk => hk.2) (.int .i64 t395)) (fun _ hk => hk.2) (.int .i64 t396)) (fun _ hk => hk.2) (.slice Ao38 t397.length co38)) (fun _ h_ => h_.1))) hb); have n5_ := Aside0.mk (Kd.R_below (by (with_reducible repeat (first | apply Kd.R_alloc | apply Kd.R_drewN | apply Kd.R_drew)); exact (Kd.R_mono (Kd.R_far (p := ⟨gb401, 3, none⟩) (Kd.R_far (p := ⟨gb401, 2, none⟩) (Kd.R_far (p := ⟨gb401, 1, none⟩) (Kd.R_far (p := ⟨gb401, 0, none⟩) (Kd.R_types HO399.out BK401.out (by decide)) (fun _ hk => hk.2) (.int .i64 t394)) (fun _ hk => hk.2) (.int .i64 t395)) (fun _ hk => hk.2) (.int .i64 t396)) (fun _ hk => hk.2) (.slice Ao38 t397.length co38)) (fun _ h_ => h_.1))) hb); have n6_ := Aside0.mk (blk_below (g := gb369) (o := .cells #[.int .i64 a0_0, .slice A0_1 l0_1.length c0_1, .slice A0_2 l0_2.length c0_2] 31 (0, 0)) (by (with_reducible repeat (first | refine blk_drewN ?_ _ | refine blk_drew ?_ | refine blk_alloc ?_ _)); refine blk_far ?_ NB369_401.out _; (with_reducible repeat (first | refine blk_drewN ?_ _ | refine blk_drew ?_ | refine blk_alloc ?_ _)); refine blk_far ?_ NB369_401.out _; (with_reducible repeat (first | refine blk_drewN ?_ _ | refine blk_drew ?_ | refine blk_alloc ?_ _)); refine blk_far ?_ NB369_401.out _; (with_reducible repeat (first | refine blk_drewN ?_ _ | refine blk_drew ?_ | refine blk_alloc ?_ _)); refine blk_far ?_ NB369_401.out _; (with_reducible repeat (first | refine blk_drewN ?_ _ | refine blk_drew ?_ | refine blk_alloc ?_ _)); exact BK369.out) hb); have n7_ := Aside0.mk (blk_below (g := gb385) (o := .cells #[.int .i64 t378, .int .i64 t379, .int .i64 t380, .slice Ao23 t381.length co23] 27 (0, 0)) (by (with_reducible repeat (first | refine blk_drewN ?_ _ | refine blk_drew ?_ | refine blk_alloc ?_ _)); refine blk_far ?_ NB385_401.out _; (with_reducible repeat (first | refine blk_drewN ?_ _ | refine blk_drew ?_ | refine blk_alloc ?_ _)); refine blk_far ?_ NB385_401.out _; (with_reducible repeat (first | refine blk_drewN ?_ _ | refine blk_drew ?_ | refine blk_alloc ?_ _)); refine blk_far ?_ NB385_401.out _; (with_reducible repeat (first | refine blk_drewN ?_ _ | refine blk_drew ?_ | refine blk_alloc ?_ _)); refine blk_far ?_ NB385_401.out _; (with_reducible repeat (first | refine blk_drewN ?_ _ | refine blk_drew ?_ | refine blk_alloc ?_ _)); exact BK385.out) hb); have n8_ := Aside0.mk (blk_below (g := gb393) (o := .cells #[.int .i64 t386, .slice Ao30 t387.length co30, .slice Ao31 t390.length co31] 34 (0, 0)) (by (with_reducible repeat (first | refine blk_drewN ?_ _ | refine blk_drew ?_ | refine blk_alloc ?_ _)); refine blk_far ?_ NB393_401.out _; (with_reducible repeat (first | refine blk_drewN ?_ _ | refine blk_drew ?_ | refine blk_alloc ?_ _)); refine blk_far ?_ NB393_401.out _; (with_reducible repeat (first | refine blk_drewN ?_ _ | refine blk_drew ?_ | refine blk_alloc ?_ _)); refine blk_far ?_ NB393_401.out _; (with_reducible repeat (first | refine blk_drewN ?_ _ | refine blk_drew ?_ | refine blk_alloc ?_ _)); refine blk_far ?_ NB393_401.out _; (with_reducible repeat (first | refine blk_drewN ?_ _ | refine blk_drew ?_ | refine blk_alloc ?_ _)); exact BK393.out) hb); have n9_ := Aside0.mk (blk_below (g := gb401) (o := .cells #[.int .i64 t394, .int .i64 t395, .int .i64 t396, .slice Ao38 t397.length co38] 27 (0, 0)) (by (with_reducible repeat (first | refine blk_drewN ?_ _ | refine blk_drew ?_ | refine blk_alloc ?_ _)); refine blk_put (cs := #[.int .i64 t394, .int .i64 t395, .int .i64 t396, .slice none 0 0]) ?_ 3 _ rfl; (with_reducible repeat (first | refine blk_drewN ?_ _ | refine blk_drew ?_ | refine blk_alloc ?_ _)); refine blk_put (cs := #[.int .i64 t394, .int .i64 t395, .int .i64 0, .slice none 0 0]) ?_ 2 _ rfl; (with_reducible repeat (first | refine blk_drewN ?_ _ | refine blk_drew ?_ | refine blk_alloc ?_ _)); refine blk_put (cs := #[.int .i64 t394, .int .i64 0, .int .i64 0, .slice none 0 0]) ?_ 1 _ rfl; (with_reducible repeat (first | refine blk_drewN ?_ _ | refine blk_drew ?_ | refine blk_alloc ?_ _)); refine blk_put (cs := #[.int .i64 0, .int .i64 0, .int .i64 0, .slice none 0 0]) ?_ 0 _ rfl; (with_reducible repeat (first | refine blk_drewN ?_ _ | refine blk_drew ?_ | refine blk_alloc ?_ _)); exact BK401.out) hb); have n10_ := Aside0.mk (below_step (by repeat (first | (with_reducible first | exact HB.out | apply below_alloc | apply pw_below_drewN | apply below_drew1 | refine below_set ?_ GE369.out | refine below_set ?_ GE385.out | refine below_set ?_ GE393.out | refine below_set ?_ GE401.out) | exact HB.out)) hb); clear HO374; clear HO377; clear HO383; clear HO389; clear HO392; clear HO399; clear BK369; clear BK385; clear BK393; clear BK401; clear HB; have HO374 := n0_; have HO377 := n1_; have HO383 := n2_; have HO389 := n3_; have HO392 := n4_; have HO399 := n5_; have BK369 := n6_; have BK385 := n7_; have BK393 := n8_; have BK401 := n9_; have HB := n10_; clear n0_ n1_ n2_ n3_ n4_ n5_ n6_ n7_ n8_ n9_ n10_; (try clear hb); (try clear hb2); (try clear hk); (try clear hi)))
        go_meet
        case rel => exact ⟨_, ((t400 != t384)), (by first | rfl | (simp; done) | (simp [*]; done)), H', ⟨by first | omega | exact Nat.le_refl _⟩, ⟨by (with_reducible repeat (first | apply Kd.R_alloc | apply Kd.R_drewN | apply Kd.R_drew)); exact Kd.R_mono HO383.out (fun _ hk => ⟨hk.1.1.2, ⟨hk.1.2, hk.2⟩⟩)⟩, ⟨by (with_reducible repeat (first | apply Kd.R_alloc | apply Kd.R_drewN | apply Kd.R_drew)); exact Kd.R_mono HO389.out (fun _ hk => ⟨hk.1.2, ⟨hk.1.1.1.1, hk.2⟩⟩)⟩, ⟨by (with_reducible repeat (first | apply Kd.R_alloc | apply Kd.R_drewN | apply Kd.R_drew)); exact Kd.R_mono HO392.out (fun _ hk => ⟨hk.1.2, ⟨hk.1.1.1.1, hk.2⟩⟩)⟩, ⟨by (with_reducible repeat (first | apply Kd.R_alloc | apply Kd.R_drewN | apply Kd.R_drew)); exact Kd.R_mono HO399.out (fun _ hk => ⟨hk.1.1.2, ⟨hk.1.2, hk.2⟩⟩)⟩, ⟨by (with_reducible repeat (first | refine blk_drewN ?_ _ | refine blk_drew ?_ | refine blk_alloc ?_ _)); exact BK369.out⟩, ⟨by (with_reducible repeat (first | refine blk_drewN ?_ _ | refine blk_drew ?_ | refine blk_alloc ?_ _)); exact BK385.out⟩, ⟨by (with_reducible repeat (first | refine blk_drewN ?_ _ | refine blk_drew ?_ | refine blk_alloc ?_ _)); exact BK393.out⟩, ⟨by (with_reducible repeat (first | refine blk_drewN ?_ _ | refine blk_drew ?_ | refine blk_alloc ?_ _)); exact BK401.out⟩, ⟨by repeat (first | (with_reducible first | exact HB.out | apply below_alloc | apply pw_below_drewN | apply below_drew1 | refine below_set ?_ GE369.out | refine below_set ?_ GE385.out | refine below_set ?_ GE393.out | refine below_set ?_ GE401.out) | exact HB.out)⟩⟩
      · replace c40 := Bool.eq_false_iff.mpr c40
        subst c40
        have H1 : (laws_FnExactIncidenceMatrix.j0 k t384 t400 true a0_0 l0_1 l0_2 t378 t379 t380 t381 t386 t387 t390 t394 t395 t396 t397) = some r := by rw [if_neg (show ¬ (false = true) by decide)] at H; exact H
        clear H
        have H := H1
        clear H1
        have H' := Aside0.mk H
        clear H
        have hnb49 := NB401_369.out
        have hnc49 := NB369_401.out
        have hnb50 := NB401_385.out
        have hnc50 := NB385_401.out
        have hnb51 := NB401_393.out
        have hnc51 := NB393_401.out
        have hcz52_0 : w33.cell? ⟨gb401, 0, none⟩ = some (.int .i64 0) := (blk_cell BK401.out 0).trans rfl
        have hcz52_1 : w33.cell? ⟨gb401, 1, none⟩ = some (.int .i64 0) := (blk_cell BK401.out 1).trans rfl
        have hcz52_2 : w33.cell? ⟨gb401, 2, none⟩ = some (.int .i64 0) := (blk_cell BK401.out 2).trans rfl
        have hcz52_3 : w33.cell? ⟨gb401, 3, none⟩ = some (.slice none 0 0) := (blk_cell BK401.out 3).trans rfl
        have hfz52_0 := blk_frozen BK401.out 0
        have hfz52_1 := blk_frozen BK401.out 1
        have hfz52_2 := blk_frozen BK401.out 2
        have hfz52_3 := blk_frozen BK401.out 3
        have hnb53 := NB385_369.out
        have hnc53 := NB369_385.out
        have hnb54 := NB385_393.out
        have hnc54 := NB393_385.out
        have hcz55_0 : w33.cell? ⟨gb385, 0, none⟩ = some (.int .i64 t378) := (blk_cell BK385.out 0).trans rfl
        have hcz55_1 : w33.cell? ⟨gb385, 1, none⟩ = some (.int .i64 t379) := (blk_cell BK385.out 1).trans rfl
        have hcz55_2 : w33.cell? ⟨gb385, 2, none⟩ = some (.int .i64 t380) := (blk_cell BK385.out 2).trans rfl
        have hcz55_3 : w33.cell? ⟨gb385, 3, none⟩ = some (.slice Ao23 t381.length co23) := (blk_cell BK385.out 3).trans rfl
        have hfz55_0 := blk_frozen BK385.out 0
        have hfz55_1 := blk_frozen BK385.out 1
        have hfz55_2 := blk_frozen BK385.out 2
        have hfz55_3 := blk_frozen BK385.out 3
        go_wp2_with (first | ((with_reducible refine gate_callee (f := 15) rfl ?_); refine goesL_ (some 34) rfl rfl Try.func15 (by kernel_rfl) rfl #[.agg #[.int .i64 t394, .int .i64 t395, .int .i64 t396, .slice Ao38 t397.length co38], .agg #[.int .i64 t378, .int .i64 t379, .int .i64 t380, .slice Ao23 t381.length co23]] rfl (by (try simp only [List.map_toArray, List.map_cons, List.map_nil]); first | done | rfl | (simp only [List.length_drop, List.length_take]; rfl)) ?_; (with_reducible refine (laws_eqMatrix.calls k t394 t395 t396 _ _ t397 t378 t379 t380 _ _ t381 false _ ?side1 ?side2 ?side3 ?side4 A39.out).mono ?_); (case side1 => refine (Kd.R_reads' (e := 3) (base := w.heap.size) (ok := fun k_ => (((((True ∧ some k_ ≠ (.slice Ao17 t372.length co17 : Value).ownBlock) ∧ some k_ ≠ (.slice Ao18 t375.length co18 : Value).ownBlock) ∧ some k_ ≠ (.slice Ao23 t381.length co23 : Value).ownBlock) ∧ some k_ ≠ (.slice Ao30 t387.length co30 : Value).ownBlock) ∧ some k_ ≠ (.slice Ao31 t390.length co31 : Value).ownBlock)) (n := t397.length) (c := co38) ?_).2.2; exact (by (with_reducible repeat (first | apply Kd.R_alloc | apply Kd.R_drewN | apply Kd.R_drew)); exact (Kd.R_mono (Kd.R_far (p := ⟨gb401, 3, none⟩) (Kd.R_far (p := ⟨gb401, 2, none⟩) (Kd.R_far (p := ⟨gb401, 1, none⟩) (Kd.R_far (p := ⟨gb401, 0, none⟩) (Kd.R_types HO399.out BK401.out (by decide)) (fun _ hk => hk.2) (.int .i64 t394)) (fun _ hk => hk.2) (.int .i64 t395)) (fun _ hk => hk.2) (.int .i64 t396)) (fun _ hk => hk.2) (.slice Ao38 t397.length co38)) (fun _ h_ => h_.1)))); (case side2 => exact (Kd.R_reads' HO399.out).2.1); (case side3 => refine (Kd.R_reads' (e := 3) (base := w.heap.size) (ok := fun k_ => (((((True ∧ some k_ ≠ (.slice Ao17 t372.length co17 : Value).ownBlock) ∧ some k_ ≠ (.slice Ao18 t375.length co18 : Value).ownBlock) ∧ some k_ ≠ (.slice Ao30 t387.length co30 : Value).ownBlock) ∧ some k_ ≠ (.slice Ao31 t390.length co31 : Value).ownBlock) ∧ some k_ ≠ (.slice Ao38 t397.length co38 : Value).ownBlock)) (n := t381.length) (c := co23) ?_).2.2; exact (by (with_reducible repeat (first | apply Kd.R_alloc | apply Kd.R_drewN | apply Kd.R_drew)); exact (Kd.R_mono (Kd.R_far (p := ⟨gb401, 3, none⟩) (Kd.R_far (p := ⟨gb401, 2, none⟩) (Kd.R_far (p := ⟨gb401, 1, none⟩) (Kd.R_far (p := ⟨gb401, 0, none⟩) (Kd.R_types HO383.out BK401.out (by decide)) (fun _ hk => hk.2) (.int .i64 t394)) (fun _ hk => hk.2) (.int .i64 t395)) (fun _ hk => hk.2) (.int .i64 t396)) (fun _ hk => hk.2) (.slice Ao38 t397.length co38)) (fun _ h_ => h_.1)))); (case side4 => exact (Kd.R_reads' HO383.out).2.1); rintro e w56 ⟨rfl, hb⟩; refine ⟨_, rfl, ?_⟩; have n0_ := Aside0.mk (Kd.R_below (by (with_reducible repeat (first | apply Kd.R_alloc | apply Kd.R_drewN | apply Kd.R_drew)); exact (Kd.R_mono (Kd.R_far (p := ⟨gb401, 3, none⟩) (Kd.R_far (p := ⟨gb401, 2, none⟩) (Kd.R_far (p := ⟨gb401, 1, none⟩) (Kd.R_far (p := ⟨gb401, 0, none⟩) (Kd.R_types HO374.out BK401.out (by decide)) (fun _ hk => hk.2) (.int .i64 t394)) (fun _ hk => hk.2) (.int .i64 t395)) (fun _ hk => hk.2) (.int .i64 t396)) (fun _ hk => hk.2) (.slice Ao38 t397.length co38)) (fun _ h_ => h_.1))) hb); have n1_ := Aside0.mk (Kd.R_below (by (with_reducible repeat (first | apply Kd.R_alloc | apply Kd.R_drewN | apply Kd.R_drew)); exact (Kd.R_mono (Kd.R_far (p := ⟨gb401, 3, none⟩) (Kd.R_far (p := ⟨gb401, 2, none⟩) (Kd.R_far (p := ⟨gb401, 1, none⟩) (Kd.R_far (p := ⟨gb401, 0, none⟩) (Kd.R_types HO377.out BK401.out (by decide)) (fun _ hk => hk.2) (.int .i64 t394)) (fun _ hk => hk.2) (.int .i64 t395)) (fun _ hk => hk.2) (.int .i64 t396)) (fun _ hk => hk.2) (.slice Ao38 t397.length co38)) (fun _ h_ => h_.1))) hb); have n2_ := Aside0.mk (Kd.R_below (by (with_reducible repeat (first | apply Kd.R_alloc | apply Kd.R_drewN | apply Kd.R_drew)); exact (Kd.R_mono (Kd.R_far (p := ⟨gb401, 3, none⟩) (Kd.R_far (p := ⟨gb401, 2, none⟩) (Kd.R_far (p := ⟨gb401, 1, none⟩) (Kd.R_far (p := ⟨gb401, 0, none⟩) (Kd.R_types HO383.out BK401.out (by decide)) (fun _ hk => hk.2) (.int .i64 t394)) (fun _ hk => hk.2) (.int .i64 t395)) (fun _ hk => hk.2) (.int .i64 t396)) (fun _ hk => hk.2) (.slice Ao38 t397.length co38)) (fun _ h_ => h_.1))) hb); have n3_ := Aside0.mk (Kd.R_below (by (with_reducible repeat (first | apply Kd.R_alloc | apply Kd.R_drewN | apply Kd.R_drew)); exact (Kd.R_mono (Kd.R_far (p := ⟨gb401, 3, none⟩) (Kd.R_far (p := ⟨gb401, 2, none⟩) (Kd.R_far (p := ⟨gb401, 1, none⟩) (Kd.R_far (p := ⟨gb401, 0, none⟩) (Kd.R_types HO389.out BK401.out (by decide)) (fun _ hk => hk.2) (.int .i64 t394)) (fun _ hk => hk.2) (.int .i64 t395)) (fun _ hk => hk.2) (.int .i64 t396)) (fun _ hk => hk.2) (.slice Ao38 t397.length co38)) (fun _ h_ => h_.1))) hb); have n4_ := Aside0.mk (Kd.R_below (by (with_reducible repeat (first | apply Kd.R_alloc | apply Kd.R_drewN | apply Kd.R_drew)); exact (Kd.R_mono (Kd.R_far (p := ⟨gb401, 3, none⟩) (Kd.R_far (p := ⟨gb401, 2, none⟩) (Kd.R_far (p := ⟨gb401, 1, none⟩) (Kd.R_far (p := ⟨gb401, 0, none⟩) (Kd.R_types HO392.out BK401.out (by decide)) (fun _ hk => hk.2) (.int .i64 t394)) (fun _ hk => hk.2) (.int .i64 t395)) (fun _ hk => hk.2) (.int .i64 t396)) (fun _ hk => hk.2) (.slice Ao38 t397.length co38)) (fun _ h_ => h_.1))) hb); have n5_ := Aside0.mk (Kd.R_below (by (with_reducible repeat (first | apply Kd.R_alloc | apply Kd.R_drewN | apply Kd.R_drew)); exact (Kd.R_mono (Kd.R_far (p := ⟨gb401, 3, none⟩) (Kd.R_far (p := ⟨gb401, 2, none⟩) (Kd.R_far (p := ⟨gb401, 1, none⟩) (Kd.R_far (p := ⟨gb401, 0, none⟩) (Kd.R_types HO399.out BK401.out (by decide)) (fun _ hk => hk.2) (.int .i64 t394)) (fun _ hk => hk.2) (.int .i64 t395)) (fun _ hk => hk.2) (.int .i64 t396)) (fun _ hk => hk.2) (.slice Ao38 t397.length co38)) (fun _ h_ => h_.1))) hb); have n6_ := Aside0.mk (blk_below (g := gb369) (o := .cells #[.int .i64 a0_0, .slice A0_1 l0_1.length c0_1, .slice A0_2 l0_2.length c0_2] 31 (0, 0)) (by (with_reducible repeat (first | refine blk_drewN ?_ _ | refine blk_drew ?_ | refine blk_alloc ?_ _)); refine blk_far ?_ NB369_401.out _; (with_reducible repeat (first | refine blk_drewN ?_ _ | refine blk_drew ?_ | refine blk_alloc ?_ _)); refine blk_far ?_ NB369_401.out _; (with_reducible repeat (first | refine blk_drewN ?_ _ | refine blk_drew ?_ | refine blk_alloc ?_ _)); refine blk_far ?_ NB369_401.out _; (with_reducible repeat (first | refine blk_drewN ?_ _ | refine blk_drew ?_ | refine blk_alloc ?_ _)); refine blk_far ?_ NB369_401.out _; (with_reducible repeat (first | refine blk_drewN ?_ _ | refine blk_drew ?_ | refine blk_alloc ?_ _)); exact BK369.out) hb); have n7_ := Aside0.mk (blk_below (g := gb385) (o := .cells #[.int .i64 t378, .int .i64 t379, .int .i64 t380, .slice Ao23 t381.length co23] 27 (0, 0)) (by (with_reducible repeat (first | refine blk_drewN ?_ _ | refine blk_drew ?_ | refine blk_alloc ?_ _)); refine blk_far ?_ NB385_401.out _; (with_reducible repeat (first | refine blk_drewN ?_ _ | refine blk_drew ?_ | refine blk_alloc ?_ _)); refine blk_far ?_ NB385_401.out _; (with_reducible repeat (first | refine blk_drewN ?_ _ | refine blk_drew ?_ | refine blk_alloc ?_ _)); refine blk_far ?_ NB385_401.out _; (with_reducible repeat (first | refine blk_drewN ?_ _ | refine blk_drew ?_ | refine blk_alloc ?_ _)); refine blk_far ?_ NB385_401.out _; (with_reducible repeat (first | refine blk_drewN ?_ _ | refine blk_drew ?_ | refine blk_alloc ?_ _)); exact BK385.out) hb); have n8_ := Aside0.mk (blk_below (g := gb393) (o := .cells #[.int .i64 t386, .slice Ao30 t387.length co30, .slice Ao31 t390.length co31] 34 (0, 0)) (by (with_reducible repeat (first | refine blk_drewN ?_ _ | refine blk_drew ?_ | refine blk_alloc ?_ _)); refine blk_far ?_ NB393_401.out _; (with_reducible repeat (first | refine blk_drewN ?_ _ | refine blk_drew ?_ | refine blk_alloc ?_ _)); refine blk_far ?_ NB393_401.out _; (with_reducible repeat (first | refine blk_drewN ?_ _ | refine blk_drew ?_ | refine blk_alloc ?_ _)); refine blk_far ?_ NB393_401.out _; (with_reducible repeat (first | refine blk_drewN ?_ _ | refine blk_drew ?_ | refine blk_alloc ?_ _)); refine blk_far ?_ NB393_401.out _; (with_reducible repeat (first | refine blk_drewN ?_ _ | refine blk_drew ?_ | refine blk_alloc ?_ _)); exact BK393.out) hb); have n9_ := Aside0.mk (blk_below (g := gb401) (o := .cells #[.int .i64 t394, .int .i64 t395, .int .i64 t396, .slice Ao38 t397.length co38] 27 (0, 0)) (by (with_reducible repeat (first | refine blk_drewN ?_ _ | refine blk_drew ?_ | refine blk_alloc ?_ _)); refine blk_put (cs := #[.int .i64 t394, .int .i64 t395, .int .i64 t396, .slice none 0 0]) ?_ 3 _ rfl; (with_reducible repeat (first | refine blk_drewN ?_ _ | refine blk_drew ?_ | refine blk_alloc ?_ _)); refine blk_put (cs := #[.int .i64 t394, .int .i64 t395, .int .i64 0, .slice none 0 0]) ?_ 2 _ rfl; (with_reducible repeat (first | refine blk_drewN ?_ _ | refine blk_drew ?_ | refine blk_alloc ?_ _)); refine blk_put (cs := #[.int .i64 t394, .int .i64 0, .int .i64 0, .slice none 0 0]) ?_ 1 _ rfl; (with_reducible repeat (first | refine blk_drewN ?_ _ | refine blk_drew ?_ | refine blk_alloc ?_ _)); refine blk_put (cs := #[.int .i64 0, .int .i64 0, .int .i64 0, .slice none 0 0]) ?_ 0 _ rfl; (with_reducible repeat (first | refine blk_drewN ?_ _ | refine blk_drew ?_ | refine blk_alloc ?_ _)); exact BK401.out) hb); have n10_ := Aside0.mk (below_step (by repeat (first | (with_reducible first | exact HB.out | apply below_alloc | apply pw_below_drewN | apply below_drew1 | refine below_set ?_ GE369.out | refine below_set ?_ GE385.out | refine below_set ?_ GE393.out | refine below_set ?_ GE401.out) | exact HB.out)) hb); clear HO374; clear HO377; clear HO383; clear HO389; clear HO392; clear HO399; clear BK369; clear BK385; clear BK393; clear BK401; clear HB; have HO374 := n0_; have HO377 := n1_; have HO383 := n2_; have HO389 := n3_; have HO392 := n4_; have HO399 := n5_; have BK369 := n6_; have BK385 := n7_; have BK393 := n8_; have BK401 := n9_; have HB := n10_; clear n0_ n1_ n2_ n3_ n4_ n5_ n6_ n7_ n8_ n9_ n10_; (try clear hb); (try clear hb2); (try clear hk); (try clear hi)))
        go_meet
        case rel => exact ⟨_, (true), (by first | rfl | (simp; done) | (simp [*]; done)), H', ⟨by first | omega | exact Nat.le_refl _⟩, ⟨by (with_reducible repeat (first | apply Kd.R_alloc | apply Kd.R_drewN | apply Kd.R_drew)); exact Kd.R_mono HO383.out (fun _ hk => ⟨hk.1.1.2, ⟨hk.1.2, hk.2⟩⟩)⟩, ⟨by (with_reducible repeat (first | apply Kd.R_alloc | apply Kd.R_drewN | apply Kd.R_drew)); exact Kd.R_mono HO389.out (fun _ hk => ⟨hk.1.2, ⟨hk.1.1.1.1, hk.2⟩⟩)⟩, ⟨by (with_reducible repeat (first | apply Kd.R_alloc | apply Kd.R_drewN | apply Kd.R_drew)); exact Kd.R_mono HO392.out (fun _ hk => ⟨hk.1.2, ⟨hk.1.1.1.1, hk.2⟩⟩)⟩, ⟨by (with_reducible repeat (first | apply Kd.R_alloc | apply Kd.R_drewN | apply Kd.R_drew)); exact Kd.R_mono HO399.out (fun _ hk => ⟨hk.1.1.2, ⟨hk.1.2, hk.2⟩⟩)⟩, ⟨by (with_reducible repeat (first | refine blk_drewN ?_ _ | refine blk_drew ?_ | refine blk_alloc ?_ _)); exact BK369.out⟩, ⟨by (with_reducible repeat (first | refine blk_drewN ?_ _ | refine blk_drew ?_ | refine blk_alloc ?_ _)); exact BK385.out⟩, ⟨by (with_reducible repeat (first | refine blk_drewN ?_ _ | refine blk_drew ?_ | refine blk_alloc ?_ _)); exact BK393.out⟩, ⟨by (with_reducible repeat (first | refine blk_drewN ?_ _ | refine blk_drew ?_ | refine blk_alloc ?_ _)); exact BK401.out⟩, ⟨by repeat (first | (with_reducible first | exact HB.out | apply below_alloc | apply pw_below_drewN | apply below_drew1 | refine below_set ?_ GE369.out | refine below_set ?_ GE385.out | refine below_set ?_ GE393.out | refine below_set ?_ GE401.out) | exact HB.out)⟩⟩
    case rest =>
      clear HC11
      try clear c1
      try clear c2
      try clear p2
      try clear c3
      try clear c3b0
      try clear c4
      try clear c5
      try clear c6
      try clear c15
      try clear c16
      try clear c18
      try clear c21
      try clear c23
      try clear c24
      try clear c27
      try clear c28
      try clear c34
      try clear c35
      try clear c36
      try clear c40
      try clear c41
      try clear c42
      try clear c43
      try clear c45
      try clear c46
      try clear c49
      try clear c50
      try clear c51
      try clear c53
      try clear c54
      try clear hcz13_0
      try clear hcz13_1
      try clear hcz13_2
      try clear hcz15_0
      try clear hcz15_1
      try clear hcz15_2
      try clear hcz22_0
      try clear hcz22_1
      try clear hcz22_2
      try clear hcz22_3
      try clear hcz24_0
      try clear hcz24_1
      try clear hcz24_2
      try clear hcz29_0
      try clear hcz29_1
      try clear hcz29_2
      try clear hcz37_0
      try clear hcz37_1
      try clear hcz37_2
      try clear hcz37_3
      try clear hcz44_0
      try clear hcz44_1
      try clear hcz44_2
      try clear hcz44_3
      try clear hcz47_0
      try clear hcz47_1
      try clear hcz47_2
      try clear hcz47_3
      try clear hcz52_0
      try clear hcz52_1
      try clear hcz52_2
      try clear hcz52_3
      try clear hcz55_0
      try clear hcz55_1
      try clear hcz55_2
      try clear hcz55_3
      try clear hcz5_0
      try clear hcz5_1
      try clear hcz5_2
      try clear hfz13_0
      try clear hfz13_1
      try clear hfz13_2
      try clear hfz15_0
      try clear hfz15_1
      try clear hfz15_2
      try clear hfz22_0
      try clear hfz22_1
      try clear hfz22_2
      try clear hfz22_3
      try clear hfz24_0
      try clear hfz24_1
      try clear hfz24_2
      try clear hfz29_0
      try clear hfz29_1
      try clear hfz29_2
      try clear hfz37_0
      try clear hfz37_1
      try clear hfz37_2
      try clear hfz37_3
      try clear hfz44_0
      try clear hfz44_1
      try clear hfz44_2
      try clear hfz44_3
      try clear hfz47_0
      try clear hfz47_1
      try clear hfz47_2
      try clear hfz47_3
      try clear hfz52_0
      try clear hfz52_1
      try clear hfz52_2
      try clear hfz52_3
      try clear hfz55_0
      try clear hfz55_1
      try clear hfz55_2
      try clear hfz55_3
      try clear hfz5_0
      try clear hfz5_1
      try clear hfz5_2
      obtain ⟨kq, x40_10, rfl, HA, HJ10, HO_386003, HO_394001, HO_394002, HO_402003, BK369, BK385, BK393, BK401, HB⟩ := hcut
      cases kq with
      | zero => exact absurd HA.out (by simp [laws_FnExactIncidenceMatrix.j0])
      | succ kj10 =>
        have H := HA.out
        clear HA
        simp only [laws_FnExactIncidenceMatrix.j0] at H
        by_cases c57 : x40_10 = true
        · subst c57
          have H1 : (none) = some r := by rw [if_pos rfl] at H; exact H
          clear H
          have H := H1
          clear H1
          exact absurd H (by simp)
        · replace c57 := Bool.eq_false_iff.mpr c57
          subst c57
          have H1 : ((laws_toGraph.f kj10 a0_0 l0_1 l0_2).bind fun bt403 => ((laws_eqGraph.f kj10 t386 t387 t390 bt403.1 bt403.2.1 bt403.2.2).bind fun t410 => (if t410 = true then ((laws_markGraph.f kj10 t386 t387 t390 1).bind fun bt411 => (if bt411.1 < 0 then (laws_FnExactIncidenceMatrix.j1 kj10 t384 true a0_0 l0_1 l0_2 t378 t379 t380 t381 t394 t395 t396 t397) else ((laws_eqMatrix.f kj10 t394 t395 t396 t397 t378 t379 t380 t381).bind fun t414 => (if t414 = true then (laws_FnExactIncidenceMatrix.j1 kj10 t384 (t400 != t384) a0_0 l0_1 l0_2 t378 t379 t380 t381 t394 t395 t396 t397) else (laws_FnExactIncidenceMatrix.j1 kj10 t384 true a0_0 l0_1 l0_2 t378 t379 t380 t381 t394 t395 t396 t397))))) else (none)))) = some r := by rw [if_neg (show ¬ (false = true) by decide)] at H; exact H
          clear H
          have H := H1
          clear H1
          replace H := Option.bind_eq_some_iff.mp H
          obtain ⟨⟨t403, t404, t407⟩, A580, H⟩ := H
          replace H : ((laws_eqGraph.f kj10 t386 t387 t390 t403 t404 t407).bind fun t410 => (if t410 = true then ((laws_markGraph.f kj10 t386 t387 t390 1).bind fun bt411 => (if bt411.1 < 0 then (laws_FnExactIncidenceMatrix.j1 kj10 t384 true a0_0 l0_1 l0_2 t378 t379 t380 t381 t394 t395 t396 t397) else ((laws_eqMatrix.f kj10 t394 t395 t396 t397 t378 t379 t380 t381).bind fun t414 => (if t414 = true then (laws_FnExactIncidenceMatrix.j1 kj10 t384 (t400 != t384) a0_0 l0_1 l0_2 t378 t379 t380 t381 t394 t395 t396 t397) else (laws_FnExactIncidenceMatrix.j1 kj10 t384 true a0_0 l0_1 l0_2 t378 t379 t380 t381 t394 t395 t396 t397))))) else (none))) = some r := H
          have A58 := Aside0.mk A580
          clear A580
          replace H := Option.bind_eq_some_iff.mp H
          obtain ⟨t410, A590, H⟩ := H
          replace H : (if t410 = true then ((laws_markGraph.f kj10 t386 t387 t390 1).bind fun bt411 => (if bt411.1 < 0 then (laws_FnExactIncidenceMatrix.j1 kj10 t384 true a0_0 l0_1 l0_2 t378 t379 t380 t381 t394 t395 t396 t397) else ((laws_eqMatrix.f kj10 t394 t395 t396 t397 t378 t379 t380 t381).bind fun t414 => (if t414 = true then (laws_FnExactIncidenceMatrix.j1 kj10 t384 (t400 != t384) a0_0 l0_1 l0_2 t378 t379 t380 t381 t394 t395 t396 t397) else (laws_FnExactIncidenceMatrix.j1 kj10 t384 true a0_0 l0_1 l0_2 t378 t379 t380 t381 t394 t395 t396 t397))))) else (none)) = some r := H
          have A59 := Aside0.mk A590
          clear A590
          by_cases c60 : t410 = true
          · subst c60
            have H1 : ((laws_markGraph.f kj10 t386 t387 t390 1).bind fun bt411 => (if bt411.1 < 0 then (laws_FnExactIncidenceMatrix.j1 kj10 t384 true a0_0 l0_1 l0_2 t378 t379 t380 t381 t394 t395 t396 t397) else ((laws_eqMatrix.f kj10 t394 t395 t396 t397 t378 t379 t380 t381).bind fun t414 => (if t414 = true then (laws_FnExactIncidenceMatrix.j1 kj10 t384 (t400 != t384) a0_0 l0_1 l0_2 t378 t379 t380 t381 t394 t395 t396 t397) else (laws_FnExactIncidenceMatrix.j1 kj10 t384 true a0_0 l0_1 l0_2 t378 t379 t380 t381 t394 t395 t396 t397))))) = some r := by rw [if_pos rfl] at H; exact H
            clear H
            have H := H1
            clear H1
            replace H := Option.bind_eq_some_iff.mp H
            obtain ⟨⟨t411, t412, t413⟩, A610, H⟩ := H
            replace H : (if t411 < 0 then (laws_FnExactIncidenceMatrix.j1 kj10 t384 true a0_0 l0_1 l0_2 t378 t379 t380 t381 t394 t395 t396 t397) else ((laws_eqMatrix.f kj10 t394 t395 t396 t397 t378 t379 t380 t381).bind fun t414 => (if t414 = true then (laws_FnExactIncidenceMatrix.j1 kj10 t384 (t400 != t384) a0_0 l0_1 l0_2 t378 t379 t380 t381 t394 t395 t396 t397) else (laws_FnExactIncidenceMatrix.j1 kj10 t384 true a0_0 l0_1 l0_2 t378 t379 t380 t381 t394 t395 t396 t397)))) = some r := H
            have A61 := Aside0.mk A610
            clear A610
            have HC62 := Aside0.mk H
            clear H
            try go_wp2
            have n0_ := Aside0.mk (Kd.R_drew HO_386003.out)
            have n1_ := Aside0.mk (Kd.R_drew HO_394001.out)
            have n2_ := Aside0.mk (Kd.R_drew HO_394002.out)
            have n3_ := Aside0.mk (Kd.R_drew HO_402003.out)
            have n4_ := Aside0.mk (blk_drew BK369.out)
            have n5_ := Aside0.mk (blk_drew BK385.out)
            have n6_ := Aside0.mk (blk_drew BK393.out)
            have n7_ := Aside0.mk (blk_drew BK401.out)
            have n8_ := Aside0.mk (below_drew1 HB.out)
            clear HO_386003
            clear HO_394001
            clear HO_394002
            clear HO_402003
            clear BK369
            clear BK385
            clear BK393
            clear BK401
            clear HB
            have HO_386003 := n0_
            have HO_394001 := n1_
            have HO_394002 := n2_
            have HO_402003 := n3_
            have BK369 := n4_
            have BK385 := n5_
            have BK393 := n6_
            have BK401 := n7_
            have HB := n8_
            clear n0_ n1_ n2_ n3_ n4_ n5_ n6_ n7_ n8_
            refine start_ (n := 5) (S := fun w' => w'.cell? ⟨gb393, 0, none⟩ = some (.int .i64 t386) ∧ w'.cell? ⟨gb393, 1, none⟩ = some (.slice Ao30 t387.length co30) ∧ w'.cell? ⟨gb393, 2, none⟩ = some (.slice Ao31 t390.length co31) ∧ w'.cell? ⟨gb369, 0, none⟩ = some (.int .i64 a0_0) ∧ w'.cell? ⟨gb369, 1, none⟩ = some (.slice A0_1 l0_1.length c0_1) ∧ w'.cell? ⟨gb369, 2, none⟩ = some (.slice A0_2 l0_2.length c0_2)) (ds := []) #[false, false, false, false, false] (by kernel_rfl) rfl rfl ⟨(blk_cell BK393.out 0).trans rfl, (blk_cell BK393.out 1).trans rfl, (blk_cell BK393.out 2).trans rfl, (blk_cell BK369.out 0).trans rfl, (blk_cell BK369.out 1).trans rfl, (blk_cell BK369.out 2).trans rfl⟩ (fun hHeld => ?_)
            generalize wc.drew = w63 at HO_386003 HO_394001 HO_394002 HO_402003 BK369 BK385 BK393 BK401 HB hHeld ⊢
            refine take_ (i := 0) (N := some 41) (v := ?_) (a' := ?_) #[true, false, false, false, false] rfl rfl (by kernel_rfl) (fun _ _ _ h => h) (Or.inl ⟨by rfl, ?_⟩) hHeld ?_ ?_
            rotate_left
            · rintro w' ⟨s0, s1, s2, s3, s4, s5⟩
              go_simp
              with_reducible rfl
            rotate_left
            · simp only [Act.put, List.setIfInBounds_toArray, List.set_cons_zero, List.set_cons_succ, i64_w, i32_w]
              rfl
            refine take_ (i := 1) (N := some 42) (v := ?_) (a' := ?_) #[true, true, false, false, false] rfl rfl (by kernel_rfl) (fun _ _ _ h => h) (Or.inl ⟨by rfl, ?_⟩) hHeld ?_ ?_
            rotate_left
            · rintro w' ⟨s0, s1, s2, s3, s4, s5⟩
              go_simp
              with_reducible rfl
            rotate_left
            · simp only [Act.put, List.setIfInBounds_toArray, List.set_cons_zero, List.set_cons_succ, i64_w, i32_w]
              rfl
            refine one_ (i := 2) (N := some 43) #[true, true, true, false, false] rfl rfl (by kernel_rfl) (by decide) (fun K hK => ?_)
            refine goes_ Try.func18 (by kernel_rfl) rfl #[.agg #[.int .i64 a0_0, .slice A0_1 l0_1.length c0_1, .slice A0_2 l0_2.length c0_2]] (by rfl) rfl rfl (by (try simp only [List.map_toArray, List.map_cons, List.map_nil]); first | done | rfl | (simp only [List.length_drop, List.length_take]; rfl)) ?_
            with_reducible refine (laws_toGraph.calls kj10 a0_0 _ _ l0_1 _ _ l0_2 t403 t404 t407 _ ?side1 ?side2 ?side3 ?side4 A58.out).mono ?_
            (case side1 => repeat (first | exact (Kd.C_below HR0_1.out HB.out) | (with_reducible refine Kd.C_alloc ?_ _) | (with_reducible refine Kd.C_drewN ?_ _) | (with_reducible refine Kd.C_drew ?_)))
            (case side2 => exact HC0_1.out)
            (case side3 => repeat (first | exact (Kd.C_below HR0_2.out HB.out) | (with_reducible refine Kd.C_alloc ?_ _) | (with_reducible refine Kd.C_drewN ?_ _) | (with_reducible refine Kd.C_drew ?_)))
            (case side4 => exact HC0_2.out)
            rintro e w64 ⟨v405, v408, rfl, ho0, ho1, hb⟩
            refine ⟨_, rfl, ?_⟩
            have n0_ := Aside0.mk (Kd.R_mono (Kd.R_told (Kd.R_told (Kd.R_old (by (with_reducible repeat (first | apply Kd.R_alloc | apply Kd.R_drewN | apply Kd.R_drew)); exact HO_386003.out) hb) (Kd.R_base ho0)) (Kd.R_base ho1)) (fun _ h_ => h_.1))
            have n1_ := Aside0.mk (Kd.R_mono (Kd.R_told (Kd.R_told (Kd.R_old (by (with_reducible repeat (first | apply Kd.R_alloc | apply Kd.R_drewN | apply Kd.R_drew)); exact HO_394001.out) hb) (Kd.R_base ho0)) (Kd.R_base ho1)) (fun _ h_ => h_.1))
            have n2_ := Aside0.mk (Kd.R_mono (Kd.R_told (Kd.R_told (Kd.R_old (by (with_reducible repeat (first | apply Kd.R_alloc | apply Kd.R_drewN | apply Kd.R_drew)); exact HO_394002.out) hb) (Kd.R_base ho0)) (Kd.R_base ho1)) (fun _ h_ => h_.1))
            have n3_ := Aside0.mk (Kd.R_mono (Kd.R_told (Kd.R_told (Kd.R_old (by (with_reducible repeat (first | apply Kd.R_alloc | apply Kd.R_drewN | apply Kd.R_drew)); exact HO_402003.out) hb) (Kd.R_base ho0)) (Kd.R_base ho1)) (fun _ h_ => h_.1))
            have n4_ := Aside0.mk (Kd.R_lower (Kd.R_new' (Kd.R_new' (Kd.R_new' (Kd.R_new' ho0 (Kd.R_lt (by (with_reducible repeat (first | apply Kd.R_alloc | apply Kd.R_drewN | apply Kd.R_drew)); exact HO_386003.out))) (Kd.R_lt (by (with_reducible repeat (first | apply Kd.R_alloc | apply Kd.R_drewN | apply Kd.R_drew)); exact HO_394001.out))) (Kd.R_lt (by (with_reducible repeat (first | apply Kd.R_alloc | apply Kd.R_drewN | apply Kd.R_drew)); exact HO_394002.out))) (Kd.R_lt (by (with_reducible repeat (first | apply Kd.R_alloc | apply Kd.R_drewN | apply Kd.R_drew)); exact HO_402003.out))) (below_size (by repeat (first | (with_reducible first | exact HB.out | apply below_alloc | apply pw_below_drewN | apply below_drew1 | refine below_set ?_ GE369.out | refine below_set ?_ GE385.out | refine below_set ?_ GE393.out | refine below_set ?_ GE401.out) | exact HB.out))))
            have n5_ := Aside0.mk (Kd.R_lower (Kd.R_new' (Kd.R_new' (Kd.R_new' (Kd.R_new' ho1 (Kd.R_lt (by (with_reducible repeat (first | apply Kd.R_alloc | apply Kd.R_drewN | apply Kd.R_drew)); exact HO_386003.out))) (Kd.R_lt (by (with_reducible repeat (first | apply Kd.R_alloc | apply Kd.R_drewN | apply Kd.R_drew)); exact HO_394001.out))) (Kd.R_lt (by (with_reducible repeat (first | apply Kd.R_alloc | apply Kd.R_drewN | apply Kd.R_drew)); exact HO_394002.out))) (Kd.R_lt (by (with_reducible repeat (first | apply Kd.R_alloc | apply Kd.R_drewN | apply Kd.R_drew)); exact HO_402003.out))) (below_size (by repeat (first | (with_reducible first | exact HB.out | apply below_alloc | apply pw_below_drewN | apply below_drew1 | refine below_set ?_ GE369.out | refine below_set ?_ GE385.out | refine below_set ?_ GE393.out | refine below_set ?_ GE401.out) | exact HB.out))))
            have n6_ := Aside0.mk (blk_below (g := gb369) (o := .cells #[.int .i64 a0_0, .slice A0_1 l0_1.length c0_1, .slice A0_2 l0_2.length c0_2] 31 (0, 0)) (by (with_reducible repeat (first | refine blk_drewN ?_ _ | refine blk_drew ?_ | refine blk_alloc ?_ _)); exact BK369.out) hb)
            have n7_ := Aside0.mk (blk_below (g := gb385) (o := .cells #[.int .i64 t378, .int .i64 t379, .int .i64 t380, .slice Ao23 t381.length co23] 27 (0, 0)) (by (with_reducible repeat (first | refine blk_drewN ?_ _ | refine blk_drew ?_ | refine blk_alloc ?_ _)); exact BK385.out) hb)
            have n8_ := Aside0.mk (blk_below (g := gb393) (o := .cells #[.int .i64 t386, .slice Ao30 t387.length co30, .slice Ao31 t390.length co31] 34 (0, 0)) (by (with_reducible repeat (first | refine blk_drewN ?_ _ | refine blk_drew ?_ | refine blk_alloc ?_ _)); exact BK393.out) hb)
            have n9_ := Aside0.mk (blk_below (g := gb401) (o := .cells #[.int .i64 t394, .int .i64 t395, .int .i64 t396, .slice Ao38 t397.length co38] 27 (0, 0)) (by (with_reducible repeat (first | refine blk_drewN ?_ _ | refine blk_drew ?_ | refine blk_alloc ?_ _)); exact BK401.out) hb)
            have n10_ := Aside0.mk (below_step (by repeat (first | (with_reducible first | exact HB.out | apply below_alloc | apply pw_below_drewN | apply below_drew1 | refine below_set ?_ GE369.out | refine below_set ?_ GE385.out | refine below_set ?_ GE393.out | refine below_set ?_ GE401.out) | exact HB.out)) hb)
            clear HO_386003
            clear HO_394001
            clear HO_394002
            clear HO_402003
            clear BK369
            clear BK385
            clear BK393
            clear BK401
            clear HB
            have HO_386003 := n0_
            have HO_394001 := n1_
            have HO_394002 := n2_
            have HO_402003 := n3_
            have HO406 := n4_
            have HO409 := n5_
            have BK369 := n6_
            have BK385 := n7_
            have BK393 := n8_
            have BK401 := n9_
            have HB := n10_
            clear n0_ n1_ n2_ n3_ n4_ n5_ n6_ n7_ n8_ n9_ n10_
            (try clear hb)
            (try clear hb2)
            (try clear hk)
            (try clear hi)
            (try clear ho0)
            (try clear ho1)
            obtain ⟨Ao65, co65, eo65⟩ := Kd.R_slice HO406.out
            (first | subst eo65 | (injection eo65 with f1_ f2_ f3_; have f4_ := f1_.symm; have f5_ := f3_.symm; clear f1_ f2_ f3_; subst f4_; subst f5_))
            obtain ⟨Ao66, co66, eo66⟩ := Kd.R_slice HO409.out
            (first | subst eo66 | (injection eo66 with f1_ f2_ f3_; have f4_ := f1_.symm; have f5_ := f3_.symm; clear f1_ f2_ f3_; subst f4_; subst f5_))
            refine hK.out _ _ ⟨(blk_cell BK393.out 0).trans rfl, (blk_cell BK393.out 1).trans rfl, (blk_cell BK393.out 2).trans rfl, (blk_cell BK369.out 0).trans rfl, (blk_cell BK369.out 1).trans rfl, (blk_cell BK369.out 2).trans rfl⟩ (fun hHeld => ?_)
            clear hK K
            refine norm_ (a' := ?_) ?_ ?_
            rotate_left
            · show Act.put _ (some 43) _ = _
              simp only [Act.put, List.setIfInBounds_toArray, List.set_cons_zero, List.set_cons_succ, i64_w, i32_w]
              rfl
            refine one_ (i := 3) (N := some 44) #[true, true, true, true, false] rfl rfl (by kernel_rfl) (by decide) (fun K hK => ?_)
            refine goes_ Try.func20 (by kernel_rfl) rfl #[.agg #[.int .i64 t386, .slice Ao30 t387.length co30, .slice Ao31 t390.length co31], .agg #[.int .i64 t403, .slice Ao65 t404.length co65, .slice Ao66 t407.length co66]] (by rfl) rfl rfl (by (try simp only [List.map_toArray, List.map_cons, List.map_nil]); first | done | rfl | (simp only [List.length_drop, List.length_take]; rfl)) ?_
            with_reducible refine (laws_eqGraph.calls kj10 t386 _ _ t387 _ _ t390 t403 _ _ t404 _ _ t407 true _ ?side1 ?side2 ?side3 ?side4 ?side5 ?side6 ?side7 ?side8 A59.out).mono ?_
            (case side1 => repeat (first | exact (Kd.R_reads' HO_394001.out).2.2 | (with_reducible refine Kd.C_alloc ?_ _) | (with_reducible refine Kd.C_drewN ?_ _) | (with_reducible refine Kd.C_drew ?_)))
            (case side2 => exact (Kd.R_reads' HO_394001.out).2.1)
            (case side3 => repeat (first | exact (Kd.R_reads' HO_394002.out).2.2 | (with_reducible refine Kd.C_alloc ?_ _) | (with_reducible refine Kd.C_drewN ?_ _) | (with_reducible refine Kd.C_drew ?_)))
            (case side4 => exact (Kd.R_reads' HO_394002.out).2.1)
            (case side5 => repeat (first | exact (Kd.R_reads' HO406.out).2.2 | (with_reducible refine Kd.C_alloc ?_ _) | (with_reducible refine Kd.C_drewN ?_ _) | (with_reducible refine Kd.C_drew ?_)))
            (case side6 => exact (Kd.R_reads' HO406.out).2.1)
            (case side7 => repeat (first | exact (Kd.R_reads' HO409.out).2.2 | (with_reducible refine Kd.C_alloc ?_ _) | (with_reducible refine Kd.C_drewN ?_ _) | (with_reducible refine Kd.C_drew ?_)))
            (case side8 => exact (Kd.R_reads' HO409.out).2.1)
            rintro e w67 ⟨rfl, hb⟩
            refine ⟨_, rfl, ?_⟩
            have n0_ := Aside0.mk (Kd.R_below (by (with_reducible repeat (first | apply Kd.R_alloc | apply Kd.R_drewN | apply Kd.R_drew)); exact HO_386003.out) hb)
            have n1_ := Aside0.mk (Kd.R_below (by (with_reducible repeat (first | apply Kd.R_alloc | apply Kd.R_drewN | apply Kd.R_drew)); exact HO_394001.out) hb)
            have n2_ := Aside0.mk (Kd.R_below (by (with_reducible repeat (first | apply Kd.R_alloc | apply Kd.R_drewN | apply Kd.R_drew)); exact HO_394002.out) hb)
            have n3_ := Aside0.mk (Kd.R_below (by (with_reducible repeat (first | apply Kd.R_alloc | apply Kd.R_drewN | apply Kd.R_drew)); exact HO_402003.out) hb)
            have n4_ := Aside0.mk (Kd.R_below (by (with_reducible repeat (first | apply Kd.R_alloc | apply Kd.R_drewN | apply Kd.R_drew)); exact HO406.out) hb)
            have n5_ := Aside0.mk (Kd.R_below (by (with_reducible repeat (first | apply Kd.R_alloc | apply Kd.R_drewN | apply Kd.R_drew)); exact HO409.out) hb)
            have n6_ := Aside0.mk (blk_below (g := gb369) (o := .cells #[.int .i64 a0_0, .slice A0_1 l0_1.length c0_1, .slice A0_2 l0_2.length c0_2] 31 (0, 0)) (by (with_reducible repeat (first | refine blk_drewN ?_ _ | refine blk_drew ?_ | refine blk_alloc ?_ _)); exact BK369.out) hb)
            have n7_ := Aside0.mk (blk_below (g := gb385) (o := .cells #[.int .i64 t378, .int .i64 t379, .int .i64 t380, .slice Ao23 t381.length co23] 27 (0, 0)) (by (with_reducible repeat (first | refine blk_drewN ?_ _ | refine blk_drew ?_ | refine blk_alloc ?_ _)); exact BK385.out) hb)
            have n8_ := Aside0.mk (blk_below (g := gb393) (o := .cells #[.int .i64 t386, .slice Ao30 t387.length co30, .slice Ao31 t390.length co31] 34 (0, 0)) (by (with_reducible repeat (first | refine blk_drewN ?_ _ | refine blk_drew ?_ | refine blk_alloc ?_ _)); exact BK393.out) hb)
            have n9_ := Aside0.mk (blk_below (g := gb401) (o := .cells #[.int .i64 t394, .int .i64 t395, .int .i64 t396, .slice Ao38 t397.length co38] 27 (0, 0)) (by (with_reducible repeat (first | refine blk_drewN ?_ _ | refine blk_drew ?_ | refine blk_alloc ?_ _)); exact BK401.out) hb)
            have n10_ := Aside0.mk (below_step (by repeat (first | (with_reducible first | exact HB.out | apply below_alloc | apply pw_below_drewN | apply below_drew1 | refine below_set ?_ GE369.out | refine below_set ?_ GE385.out | refine below_set ?_ GE393.out | refine below_set ?_ GE401.out) | exact HB.out)) hb)
            clear HO_386003
            clear HO_394001
            clear HO_394002
            clear HO_402003
            clear HO406
            clear HO409
            clear BK369
            clear BK385
            clear BK393
            clear BK401
            clear HB
            have HO_386003 := n0_
            have HO_394001 := n1_
            have HO_394002 := n2_
            have HO_402003 := n3_
            have HO406 := n4_
            have HO409 := n5_
            have BK369 := n6_
            have BK385 := n7_
            have BK393 := n8_
            have BK401 := n9_
            have HB := n10_
            clear n0_ n1_ n2_ n3_ n4_ n5_ n6_ n7_ n8_ n9_ n10_
            (try clear hb)
            (try clear hb2)
            (try clear hk)
            (try clear hi)
            refine hK.out _ _ ⟨(blk_cell BK393.out 0).trans rfl, (blk_cell BK393.out 1).trans rfl, (blk_cell BK393.out 2).trans rfl, (blk_cell BK369.out 0).trans rfl, (blk_cell BK369.out 1).trans rfl, (blk_cell BK369.out 2).trans rfl⟩ (fun hHeld => ?_)
            clear hK K
            refine norm_ (a' := ?_) ?_ ?_
            rotate_left
            · show Act.put _ (some 44) _ = _
              simp only [Act.put, List.setIfInBounds_toArray, List.set_cons_zero, List.set_cons_succ, i64_w, i32_w]
              rfl
            refine pure_ (i := 4) (N := some 45) (v := ?_) (a' := ?_) #[true, true, true, true, true] rfl rfl (by kernel_rfl) (fun _ _ _ h => h) (Or.inl ⟨by rfl, ?_⟩) ?_ ?_
            rotate_left
            · intro w'
              go_simp
              with_reducible rfl
            rotate_left
            · simp only [Act.put, List.setIfInBounds_toArray, List.set_cons_zero, List.set_cons_succ, i64_w, i32_w]
              rfl
            refine done_ (by kernel_rfl) ?_
            have hnb68 := NB393_369.out
            have hnc68 := NB369_393.out
            have hnb69 := NB393_385.out
            have hnc69 := NB385_393.out
            have hnb70 := NB393_401.out
            have hnc70 := NB401_393.out
            have hcz71_0 : w67.cell? ⟨gb393, 0, none⟩ = some (.int .i64 t386) := (blk_cell BK393.out 0).trans rfl
            have hcz71_1 : w67.cell? ⟨gb393, 1, none⟩ = some (.slice Ao30 t387.length co30) := (blk_cell BK393.out 1).trans rfl
            have hcz71_2 : w67.cell? ⟨gb393, 2, none⟩ = some (.slice Ao31 t390.length co31) := (blk_cell BK393.out 2).trans rfl
            have hfz71_0 := blk_frozen BK393.out 0
            have hfz71_1 := blk_frozen BK393.out 1
            have hfz71_2 := blk_frozen BK393.out 2
            go_upto_region 14 with (first | ((with_reducible refine gate_callee (f := 25) rfl ?_); refine goesL_ (some 48) rfl rfl Try.func25 (by kernel_rfl) rfl #[.agg #[.int .i64 t386, .slice Ao30 t387.length co30, .slice Ao31 t390.length co31], .int .i64 1] rfl (by (try simp only [List.map_toArray, List.map_cons, List.map_nil]); first | done | rfl | (simp only [List.length_drop, List.length_take]; rfl)) ?_; (with_reducible refine (laws_markGraph.calls kj10 t386 (fun k_ => some k_ = (.slice Ao30 t387.length co30 : Value).ownBlock) (.slice Ao30 t387.length co30) t387 (fun k_ => some k_ = (.slice Ao31 t390.length co31 : Value).ownBlock) (.slice Ao31 t390.length co31) t390 1 t411 t412 t413 w _ ?side1 ?side2 ?side3 ?side4 ?side5 A61.out).mono ?_); (case side1 => repeat (first | (with_reducible first | exact HB.out | apply below_alloc | apply pw_below_drewN | apply below_drew1 | refine below_set ?_ GE369.out | refine below_set ?_ GE385.out | refine below_set ?_ GE393.out | refine below_set ?_ GE401.out) | exact HB.out)); (case side2 => exact Kd.R_tight rfl HO_394001.out); (case side3 => exact fun k_ e_ => (HO_394001.out.1 k_ e_.symm).1.1.2.1); (case side4 => exact Kd.R_tight rfl HO_394002.out); (case side5 => exact fun k_ e_ => (HO_394002.out.1 k_ e_.symm).1.1.2.1); rintro e w72 ⟨rfl, hy0, hy1, hb, hkp⟩; refine ⟨_, rfl, ?_⟩; have n0_ := Aside0.mk (Kd.R_mono (ok' := fun k_ => some k_ ≠ (.slice Ao30 t387.length co30 : Value).ownBlock ∧ some k_ ≠ (.slice Ao31 t390.length co31 : Value).ownBlock ∧ some k_ ≠ (.slice Ao38 t397.length co38 : Value).ownBlock ∧ some k_ ≠ (.slice Ao65 t404.length co65 : Value).ownBlock ∧ some k_ ≠ (.slice Ao66 t407.length co66 : Value).ownBlock) (Kd.R_keptB (HO_386003.out) hkp (fun k_ hk_ hs_ => Or.elim hs_ (fun e_ => (hk_.1.1.1) e_) (fun e_ => (hk_.1.1.2.1) e_))) (fun k_ hk_ => ⟨hk_.1.1.1.1, hk_.1.1.1.2.1, hk_.1.1.1.2.2, hk_.1.1.2, hk_.1.2⟩)); have n1_ := Aside0.mk (Kd.R_reok rfl hy0 (fun k_ e_ => HO_394001.out.1 k_ e_)); have n2_ := Aside0.mk (Kd.R_reok rfl hy1 (fun k_ e_ => HO_394002.out.1 k_ e_)); have n3_ := Aside0.mk (Kd.R_mono (ok' := fun k_ => some k_ ≠ (.slice Ao23 t381.length co23 : Value).ownBlock ∧ some k_ ≠ (.slice Ao30 t387.length co30 : Value).ownBlock ∧ some k_ ≠ (.slice Ao31 t390.length co31 : Value).ownBlock ∧ some k_ ≠ (.slice Ao65 t404.length co65 : Value).ownBlock ∧ some k_ ≠ (.slice Ao66 t407.length co66 : Value).ownBlock) (Kd.R_keptB (HO_402003.out) hkp (fun k_ hk_ hs_ => Or.elim hs_ (fun e_ => (hk_.1.1.2.1) e_) (fun e_ => (hk_.1.1.2.2) e_))) (fun k_ hk_ => ⟨hk_.1.1.1.1, hk_.1.1.1.2.1, hk_.1.1.1.2.2, hk_.1.1.2, hk_.1.2⟩)); have n4_ := Aside0.mk (blk_kept (by (with_reducible repeat (first | refine blk_drewN ?_ _ | refine blk_drew ?_ | refine blk_alloc ?_ _)); exact BK369.out) hkp (fun hs_ => Or.elim hs_ (fun e_ => (fun e_ => (Kd.R_ne HO_394001.out BK369.out (by decide)) e_) e_) (fun e_ => (fun e_ => (Kd.R_ne HO_394002.out BK369.out (by decide)) e_) e_))); have n5_ := Aside0.mk (blk_kept (by (with_reducible repeat (first | refine blk_drewN ?_ _ | refine blk_drew ?_ | refine blk_alloc ?_ _)); exact BK385.out) hkp (fun hs_ => Or.elim hs_ (fun e_ => (fun e_ => (Kd.R_ne HO_394001.out BK385.out (by decide)) e_) e_) (fun e_ => (fun e_ => (Kd.R_ne HO_394002.out BK385.out (by decide)) e_) e_))); have n6_ := Aside0.mk (blk_kept (by (with_reducible repeat (first | refine blk_drewN ?_ _ | refine blk_drew ?_ | refine blk_alloc ?_ _)); exact BK393.out) hkp (fun hs_ => Or.elim hs_ (fun e_ => (fun e_ => (Kd.R_ne HO_394001.out BK393.out (by decide)) e_) e_) (fun e_ => (fun e_ => (Kd.R_ne HO_394002.out BK393.out (by decide)) e_) e_))); have n7_ := Aside0.mk (blk_kept (by (with_reducible repeat (first | refine blk_drewN ?_ _ | refine blk_drew ?_ | refine blk_alloc ?_ _)); exact BK401.out) hkp (fun hs_ => Or.elim hs_ (fun e_ => (fun e_ => (Kd.R_ne HO_394001.out BK401.out (by decide)) e_) e_) (fun e_ => (fun e_ => (Kd.R_ne HO_394002.out BK401.out (by decide)) e_) e_))); have n8_ := Aside0.mk (Kd.R_mono (ok' := fun k_ => some k_ ≠ (.slice Ao23 t381.length co23 : Value).ownBlock ∧ some k_ ≠ (.slice Ao30 t387.length co30 : Value).ownBlock ∧ some k_ ≠ (.slice Ao31 t390.length co31 : Value).ownBlock ∧ some k_ ≠ (.slice Ao38 t397.length co38 : Value).ownBlock ∧ some k_ ≠ (.slice Ao66 t407.length co66 : Value).ownBlock) (Kd.R_keptB (HO406.out) hkp (fun k_ hk_ hs_ => Or.elim hs_ (fun e_ => (hk_.1.1.2) e_) (fun e_ => (hk_.1.2) e_))) (fun k_ hk_ => ⟨hk_.1.1.1.1.2, hk_.1.1.1.2, hk_.1.1.2, hk_.1.2, hk_.1.1.1.1.1⟩)); have n9_ := Aside0.mk (Kd.R_mono (ok' := fun k_ => some k_ ≠ (.slice Ao23 t381.length co23 : Value).ownBlock ∧ some k_ ≠ (.slice Ao30 t387.length co30 : Value).ownBlock ∧ some k_ ≠ (.slice Ao31 t390.length co31 : Value).ownBlock ∧ some k_ ≠ (.slice Ao38 t397.length co38 : Value).ownBlock ∧ some k_ ≠ (.slice Ao65 t404.length co65 : Value).ownBlock) (Kd.R_keptB (HO409.out) hkp (fun k_ hk_ hs_ => Or.elim hs_ (fun e_ => (hk_.1.1.2) e_) (fun e_ => (hk_.1.2) e_))) (fun k_ hk_ => ⟨hk_.1.1.1.1.2, hk_.1.1.1.2, hk_.1.1.2, hk_.1.2, hk_.1.1.1.1.1⟩)); have n10_ := Aside0.mk (hb); clear HO_386003; clear HO_394001; clear HO_394002; clear HO_402003; clear BK369; clear BK385; clear BK393; clear BK401; clear HO406; clear HO409; clear HB; have HO_386003 := n0_; have HO_394001 := n1_; have HO_394002 := n2_; have HO_402003 := n3_; have BK369 := n4_; have BK385 := n5_; have BK393 := n6_; have BK401 := n7_; have HO406 := n8_; have HO409 := n9_; have HB := n10_; clear n0_ n1_ n2_ n3_ n4_ n5_ n6_ n7_ n8_ n9_ n10_; (try clear hb); (try clear hkp); (try clear hy0); (try clear hy1)))
            (try simp only [Act.put, List.setIfInBounds_toArray, List.set_cons_zero, List.set_cons_succ])
            go_cut [61] (fun v61 wc => ∃ (kq : Nat) (x61_61 : Bool), v61 = .bool x61_61 ∧ Aside0 (laws_FnExactIncidenceMatrix.j1 kq t384 x61_61 a0_0 l0_1 l0_2 t378 t379 t380 t381 t394 t395 t396 t397 = some r) ∧ Aside0 (kq ≤ kj10) ∧ Aside0 (Kd.R (Kd.int .i64) 3 wc w.heap.size (fun k_ => some k_ ≠ ((.slice Ao30 t387.length co30) : Value).ownBlock ∧ some k_ ≠ ((.slice Ao31 t390.length co31) : Value).ownBlock ∧ some k_ ≠ ((.slice Ao38 t397.length co38) : Value).ownBlock) (.slice Ao23 t381.length co23) t381) ∧ Aside0 (Kd.R (Kd.int .i64) 3 wc w.heap.size (fun k_ => some k_ ≠ ((.slice Ao23 t381.length co23) : Value).ownBlock ∧ some k_ ≠ ((.slice Ao31 t390.length co31) : Value).ownBlock ∧ some k_ ≠ ((.slice Ao38 t397.length co38) : Value).ownBlock) (.slice Ao30 t387.length co30) t412) ∧ Aside0 (Kd.R (Kd.int .i64) 3 wc w.heap.size (fun k_ => some k_ ≠ ((.slice Ao23 t381.length co23) : Value).ownBlock ∧ some k_ ≠ ((.slice Ao30 t387.length co30) : Value).ownBlock ∧ some k_ ≠ ((.slice Ao38 t397.length co38) : Value).ownBlock) (.slice Ao31 t390.length co31) t413) ∧ Aside0 (Kd.R (Kd.int .i64) 3 wc w.heap.size (fun k_ => some k_ ≠ ((.slice Ao23 t381.length co23) : Value).ownBlock ∧ some k_ ≠ ((.slice Ao30 t387.length co30) : Value).ownBlock ∧ some k_ ≠ ((.slice Ao31 t390.length co31) : Value).ownBlock) (.slice Ao38 t397.length co38) t397) ∧ Aside0 (wc.heap[gb369]? = some (.cells #[.int .i64 a0_0, (.slice A0_1 l0_1.length c0_1), (.slice A0_2 l0_2.length c0_2)] 31 (0, 0))) ∧ Aside0 (wc.heap[gb385]? = some (.cells #[.int .i64 t378, .int .i64 t379, .int .i64 t380, (.slice Ao23 t381.length co23)] 27 (0, 0))) ∧ Aside0 (wc.heap[gb393]? = some (.cells #[.int .i64 t386, (.slice Ao30 t387.length co30), (.slice Ao31 t390.length co31)] 34 (0, 0))) ∧ Aside0 (wc.heap[gb401]? = some (.cells #[.int .i64 t394, .int .i64 t395, .int .i64 t396, (.slice Ao38 t397.length co38)] 27 (0, 0))) ∧ Aside0 (Below w.heap.size w wc))
            case first =>
              have H := HC62.out
              clear HC62
              by_cases c73 : t411 < 0
              · rw [if_pos c73] at H
                have c73b0 : decide (t411 < 0) = true := decide_eq_true c73
                clear c73
                (first | rw [c73b0] | (simp only [i64_w, i32_w]; rw [c73b0]) | skip)
                have H' := Aside0.mk H
                clear H
                go_wp2
                go_meet
                case rel => exact ⟨_, (true), (by first | rfl | (simp; done) | (simp [*]; done)), H', ⟨by have := HJ10.out; first | omega | exact Nat.le_refl _⟩, ⟨by (with_reducible repeat (first | apply Kd.R_alloc | apply Kd.R_drewN | apply Kd.R_drew)); exact Kd.R_mono HO_386003.out (fun _ hk => ⟨hk.1, ⟨hk.2.1, hk.2.2.1⟩⟩)⟩, ⟨by (with_reducible repeat (first | apply Kd.R_alloc | apply Kd.R_drewN | apply Kd.R_drew)); exact Kd.R_mono HO_394001.out (fun _ hk => ⟨hk.1.1.1, ⟨hk.1.1.2.1, hk.1.1.2.2⟩⟩)⟩, ⟨by (with_reducible repeat (first | apply Kd.R_alloc | apply Kd.R_drewN | apply Kd.R_drew)); exact Kd.R_mono HO_394002.out (fun _ hk => ⟨hk.1.1.1, ⟨hk.1.1.2.1, hk.1.1.2.2⟩⟩)⟩, ⟨by (with_reducible repeat (first | apply Kd.R_alloc | apply Kd.R_drewN | apply Kd.R_drew)); exact Kd.R_mono HO_402003.out (fun _ hk => ⟨hk.1, ⟨hk.2.1, hk.2.2.1⟩⟩)⟩, ⟨by (with_reducible repeat (first | refine blk_drewN ?_ _ | refine blk_drew ?_ | refine blk_alloc ?_ _)); exact BK369.out⟩, ⟨by (with_reducible repeat (first | refine blk_drewN ?_ _ | refine blk_drew ?_ | refine blk_alloc ?_ _)); exact BK385.out⟩, ⟨by (with_reducible repeat (first | refine blk_drewN ?_ _ | refine blk_drew ?_ | refine blk_alloc ?_ _)); exact BK393.out⟩, ⟨by (with_reducible repeat (first | refine blk_drewN ?_ _ | refine blk_drew ?_ | refine blk_alloc ?_ _)); exact BK401.out⟩, ⟨by repeat (first | (with_reducible first | exact HB.out | apply below_alloc | apply pw_below_drewN | apply below_drew1 | refine below_set ?_ GE369.out | refine below_set ?_ GE385.out | refine below_set ?_ GE393.out | refine below_set ?_ GE401.out) | exact HB.out)⟩⟩
              · rw [if_neg c73] at H
                have c73b0 : decide (t411 < 0) = false := decide_eq_false c73
                clear c73
                (first | rw [c73b0] | (simp only [i64_w, i32_w]; rw [c73b0]) | skip)
                replace H := Option.bind_eq_some_iff.mp H
                obtain ⟨t414, A740, H⟩ := H
                replace H : (if t414 = true then (laws_FnExactIncidenceMatrix.j1 kj10 t384 (t400 != t384) a0_0 l0_1 l0_2 t378 t379 t380 t381 t394 t395 t396 t397) else (laws_FnExactIncidenceMatrix.j1 kj10 t384 true a0_0 l0_1 l0_2 t378 t379 t380 t381 t394 t395 t396 t397)) = some r := H
                have A74 := Aside0.mk A740
                clear A740
                by_cases c75 : t414 = true
                · subst c75
                  have H1 : (laws_FnExactIncidenceMatrix.j1 kj10 t384 (t400 != t384) a0_0 l0_1 l0_2 t378 t379 t380 t381 t394 t395 t396 t397) = some r := by rw [if_pos rfl] at H; exact H
                  clear H
                  have H := H1
                  clear H1
                  have H' := Aside0.mk H
                  clear H
                  have hnb76 := NB401_369.out
                  have hnc76 := NB369_401.out
                  have hnb77 := NB401_385.out
                  have hnc77 := NB385_401.out
                  have hnb78 := NB401_393.out
                  have hnc78 := NB393_401.out
                  have hcz79_0 : w72.cell? ⟨gb401, 0, none⟩ = some (.int .i64 t394) := (blk_cell BK401.out 0).trans rfl
                  have hcz79_1 : w72.cell? ⟨gb401, 1, none⟩ = some (.int .i64 t395) := (blk_cell BK401.out 1).trans rfl
                  have hcz79_2 : w72.cell? ⟨gb401, 2, none⟩ = some (.int .i64 t396) := (blk_cell BK401.out 2).trans rfl
                  have hcz79_3 : w72.cell? ⟨gb401, 3, none⟩ = some (.slice Ao38 t397.length co38) := (blk_cell BK401.out 3).trans rfl
                  have hfz79_0 := blk_frozen BK401.out 0
                  have hfz79_1 := blk_frozen BK401.out 1
                  have hfz79_2 := blk_frozen BK401.out 2
                  have hfz79_3 := blk_frozen BK401.out 3
                  have hnb80 := NB385_369.out
                  have hnc80 := NB369_385.out
                  have hnb81 := NB385_393.out
                  have hnc81 := NB393_385.out
                  have hcz82_0 : w72.cell? ⟨gb385, 0, none⟩ = some (.int .i64 t378) := (blk_cell BK385.out 0).trans rfl
                  have hcz82_1 : w72.cell? ⟨gb385, 1, none⟩ = some (.int .i64 t379) := (blk_cell BK385.out 1).trans rfl
                  have hcz82_2 : w72.cell? ⟨gb385, 2, none⟩ = some (.int .i64 t380) := (blk_cell BK385.out 2).trans rfl
                  have hcz82_3 : w72.cell? ⟨gb385, 3, none⟩ = some (.slice Ao23 t381.length co23) := (blk_cell BK385.out 3).trans rfl
                  have hfz82_0 := blk_frozen BK385.out 0
                  have hfz82_1 := blk_frozen BK385.out 1
                  have hfz82_2 := blk_frozen BK385.out 2
                  have hfz82_3 := blk_frozen BK385.out 3
                  go_wp2_with (first | (go_at_call 15; (try simp only [i64_w, i32_w]); (with_reducible refine (laws_eqMatrix.calls kj10 t394 t395 t396 _ _ t397 t378 t379 t380 _ _ t381 true _ ?side1 ?side2 ?side3 ?side4 A74.out).mono ?_); (case side1 => repeat (first | exact (Kd.R_reads' HO_402003.out).2.2 | (with_reducible refine Kd.C_alloc ?_ _) | (with_reducible refine Kd.C_drewN ?_ _) | (with_reducible refine Kd.C_drew ?_))); (case side2 => exact (Kd.R_reads' HO_402003.out).2.1); (case side3 => repeat (first | exact (Kd.R_reads' HO_386003.out).2.2 | (with_reducible refine Kd.C_alloc ?_ _) | (with_reducible refine Kd.C_drewN ?_ _) | (with_reducible refine Kd.C_drew ?_))); (case side4 => exact (Kd.R_reads' HO_386003.out).2.1); rintro e w83 ⟨rfl, hb⟩; have n0_ := Aside0.mk (Kd.R_below (by (with_reducible repeat (first | apply Kd.R_alloc | apply Kd.R_drewN | apply Kd.R_drew)); exact HO_386003.out) hb); have n1_ := Aside0.mk (Kd.R_below (by (with_reducible repeat (first | apply Kd.R_alloc | apply Kd.R_drewN | apply Kd.R_drew)); exact HO_394001.out) hb); have n2_ := Aside0.mk (Kd.R_below (by (with_reducible repeat (first | apply Kd.R_alloc | apply Kd.R_drewN | apply Kd.R_drew)); exact HO_394002.out) hb); have n3_ := Aside0.mk (Kd.R_below (by (with_reducible repeat (first | apply Kd.R_alloc | apply Kd.R_drewN | apply Kd.R_drew)); exact HO_402003.out) hb); have n4_ := Aside0.mk (Kd.R_below (by (with_reducible repeat (first | apply Kd.R_alloc | apply Kd.R_drewN | apply Kd.R_drew)); exact HO406.out) hb); have n5_ := Aside0.mk (Kd.R_below (by (with_reducible repeat (first | apply Kd.R_alloc | apply Kd.R_drewN | apply Kd.R_drew)); exact HO409.out) hb); have n6_ := Aside0.mk (blk_below (g := gb369) (o := .cells #[.int .i64 a0_0, .slice A0_1 l0_1.length c0_1, .slice A0_2 l0_2.length c0_2] 31 (0, 0)) (by (with_reducible repeat (first | refine blk_drewN ?_ _ | refine blk_drew ?_ | refine blk_alloc ?_ _)); exact BK369.out) hb); have n7_ := Aside0.mk (blk_below (g := gb385) (o := .cells #[.int .i64 t378, .int .i64 t379, .int .i64 t380, .slice Ao23 t381.length co23] 27 (0, 0)) (by (with_reducible repeat (first | refine blk_drewN ?_ _ | refine blk_drew ?_ | refine blk_alloc ?_ _)); exact BK385.out) hb); have n8_ := Aside0.mk (blk_below (g := gb393) (o := .cells #[.int .i64 t386, .slice Ao30 t387.length co30, .slice Ao31 t390.length co31] 34 (0, 0)) (by (with_reducible repeat (first | refine blk_drewN ?_ _ | refine blk_drew ?_ | refine blk_alloc ?_ _)); exact BK393.out) hb); have n9_ := Aside0.mk (blk_below (g := gb401) (o := .cells #[.int .i64 t394, .int .i64 t395, .int .i64 t396, .slice Ao38 t397.length co38] 27 (0, 0)) (by (with_reducible repeat (first | refine blk_drewN ?_ _ | refine blk_drew ?_ | refine blk_alloc ?_ _)); exact BK401.out) hb); have n10_ := Aside0.mk (below_step (by repeat (first | (with_reducible first | exact HB.out | apply below_alloc | apply pw_below_drewN | apply below_drew1 | refine below_set ?_ GE369.out | refine below_set ?_ GE385.out | refine below_set ?_ GE393.out | refine below_set ?_ GE401.out) | exact HB.out)) hb); clear HO_386003; clear HO_394001; clear HO_394002; clear HO_402003; clear HO406; clear HO409; clear BK369; clear BK385; clear BK393; clear BK401; clear HB; have HO_386003 := n0_; have HO_394001 := n1_; have HO_394002 := n2_; have HO_402003 := n3_; have HO406 := n4_; have HO409 := n5_; have BK369 := n6_; have BK385 := n7_; have BK393 := n8_; have BK401 := n9_; have HB := n10_; clear n0_ n1_ n2_ n3_ n4_ n5_ n6_ n7_ n8_ n9_ n10_; (try clear hb); (try clear hb2); (try clear hk); (try clear hi)))
                  go_meet
                  case rel => exact ⟨_, ((t400 != t384)), (by first | rfl | (simp; done) | (simp [*]; done)), H', ⟨by have := HJ10.out; first | omega | exact Nat.le_refl _⟩, ⟨by (with_reducible repeat (first | apply Kd.R_alloc | apply Kd.R_drewN | apply Kd.R_drew)); exact Kd.R_mono HO_386003.out (fun _ hk => ⟨hk.1, ⟨hk.2.1, hk.2.2.1⟩⟩)⟩, ⟨by (with_reducible repeat (first | apply Kd.R_alloc | apply Kd.R_drewN | apply Kd.R_drew)); exact Kd.R_mono HO_394001.out (fun _ hk => ⟨hk.1.1.1, ⟨hk.1.1.2.1, hk.1.1.2.2⟩⟩)⟩, ⟨by (with_reducible repeat (first | apply Kd.R_alloc | apply Kd.R_drewN | apply Kd.R_drew)); exact Kd.R_mono HO_394002.out (fun _ hk => ⟨hk.1.1.1, ⟨hk.1.1.2.1, hk.1.1.2.2⟩⟩)⟩, ⟨by (with_reducible repeat (first | apply Kd.R_alloc | apply Kd.R_drewN | apply Kd.R_drew)); exact Kd.R_mono HO_402003.out (fun _ hk => ⟨hk.1, ⟨hk.2.1, hk.2.2.1⟩⟩)⟩, ⟨by (with_reducible repeat (first | refine blk_drewN ?_ _ | refine blk_drew ?_ | refine blk_alloc ?_ _)); exact BK369.out⟩, ⟨by (with_reducible repeat (first | refine blk_drewN ?_ _ | refine blk_drew ?_ | refine blk_alloc ?_ _)); exact BK385.out⟩, ⟨by (with_reducible repeat (first | refine blk_drewN ?_ _ | refine blk_drew ?_ | refine blk_alloc ?_ _)); exact BK393.out⟩, ⟨by (with_reducible repeat (first | refine blk_drewN ?_ _ | refine blk_drew ?_ | refine blk_alloc ?_ _)); exact BK401.out⟩, ⟨by repeat (first | (with_reducible first | exact HB.out | apply below_alloc | apply pw_below_drewN | apply below_drew1 | refine below_set ?_ GE369.out | refine below_set ?_ GE385.out | refine below_set ?_ GE393.out | refine below_set ?_ GE401.out) | exact HB.out)⟩⟩
                · replace c75 := Bool.eq_false_iff.mpr c75
                  subst c75
                  have H1 : (laws_FnExactIncidenceMatrix.j1 kj10 t384 true a0_0 l0_1 l0_2 t378 t379 t380 t381 t394 t395 t396 t397) = some r := by rw [if_neg (show ¬ (false = true) by decide)] at H; exact H
                  clear H
                  have H := H1
                  clear H1
                  have H' := Aside0.mk H
                  clear H
                  have hnb84 := NB401_369.out
                  have hnc84 := NB369_401.out
                  have hnb85 := NB401_385.out
                  have hnc85 := NB385_401.out
                  have hnb86 := NB401_393.out
                  have hnc86 := NB393_401.out
                  have hcz87_0 : w72.cell? ⟨gb401, 0, none⟩ = some (.int .i64 t394) := (blk_cell BK401.out 0).trans rfl
                  have hcz87_1 : w72.cell? ⟨gb401, 1, none⟩ = some (.int .i64 t395) := (blk_cell BK401.out 1).trans rfl
                  have hcz87_2 : w72.cell? ⟨gb401, 2, none⟩ = some (.int .i64 t396) := (blk_cell BK401.out 2).trans rfl
                  have hcz87_3 : w72.cell? ⟨gb401, 3, none⟩ = some (.slice Ao38 t397.length co38) := (blk_cell BK401.out 3).trans rfl
                  have hfz87_0 := blk_frozen BK401.out 0
                  have hfz87_1 := blk_frozen BK401.out 1
                  have hfz87_2 := blk_frozen BK401.out 2
                  have hfz87_3 := blk_frozen BK401.out 3
                  have hnb88 := NB385_369.out
                  have hnc88 := NB369_385.out
                  have hnb89 := NB385_393.out
                  have hnc89 := NB393_385.out
                  have hcz90_0 : w72.cell? ⟨gb385, 0, none⟩ = some (.int .i64 t378) := (blk_cell BK385.out 0).trans rfl
                  have hcz90_1 : w72.cell? ⟨gb385, 1, none⟩ = some (.int .i64 t379) := (blk_cell BK385.out 1).trans rfl
                  have hcz90_2 : w72.cell? ⟨gb385, 2, none⟩ = some (.int .i64 t380) := (blk_cell BK385.out 2).trans rfl
                  have hcz90_3 : w72.cell? ⟨gb385, 3, none⟩ = some (.slice Ao23 t381.length co23) := (blk_cell BK385.out 3).trans rfl
                  have hfz90_0 := blk_frozen BK385.out 0
                  have hfz90_1 := blk_frozen BK385.out 1
                  have hfz90_2 := blk_frozen BK385.out 2
                  have hfz90_3 := blk_frozen BK385.out 3
                  go_wp2_with (first | (go_at_call 15; (try simp only [i64_w, i32_w]); (with_reducible refine (laws_eqMatrix.calls kj10 t394 t395 t396 _ _ t397 t378 t379 t380 _ _ t381 false _ ?side1 ?side2 ?side3 ?side4 A74.out).mono ?_); (case side1 => repeat (first | exact (Kd.R_reads' HO_402003.out).2.2 | (with_reducible refine Kd.C_alloc ?_ _) | (with_reducible refine Kd.C_drewN ?_ _) | (with_reducible refine Kd.C_drew ?_))); (case side2 => exact (Kd.R_reads' HO_402003.out).2.1); (case side3 => repeat (first | exact (Kd.R_reads' HO_386003.out).2.2 | (with_reducible refine Kd.C_alloc ?_ _) | (with_reducible refine Kd.C_drewN ?_ _) | (with_reducible refine Kd.C_drew ?_))); (case side4 => exact (Kd.R_reads' HO_386003.out).2.1); rintro e w91 ⟨rfl, hb⟩; have n0_ := Aside0.mk (Kd.R_below (by (with_reducible repeat (first | apply Kd.R_alloc | apply Kd.R_drewN | apply Kd.R_drew)); exact HO_386003.out) hb); have n1_ := Aside0.mk (Kd.R_below (by (with_reducible repeat (first | apply Kd.R_alloc | apply Kd.R_drewN | apply Kd.R_drew)); exact HO_394001.out) hb); have n2_ := Aside0.mk (Kd.R_below (by (with_reducible repeat (first | apply Kd.R_alloc | apply Kd.R_drewN | apply Kd.R_drew)); exact HO_394002.out) hb); have n3_ := Aside0.mk (Kd.R_below (by (with_reducible repeat (first | apply Kd.R_alloc | apply Kd.R_drewN | apply Kd.R_drew)); exact HO_402003.out) hb); have n4_ := Aside0.mk (Kd.R_below (by (with_reducible repeat (first | apply Kd.R_alloc | apply Kd.R_drewN | apply Kd.R_drew)); exact HO406.out) hb); have n5_ := Aside0.mk (Kd.R_below (by (with_reducible repeat (first | apply Kd.R_alloc | apply Kd.R_drewN | apply Kd.R_drew)); exact HO409.out) hb); have n6_ := Aside0.mk (blk_below (g := gb369) (o := .cells #[.int .i64 a0_0, .slice A0_1 l0_1.length c0_1, .slice A0_2 l0_2.length c0_2] 31 (0, 0)) (by (with_reducible repeat (first | refine blk_drewN ?_ _ | refine blk_drew ?_ | refine blk_alloc ?_ _)); exact BK369.out) hb); have n7_ := Aside0.mk (blk_below (g := gb385) (o := .cells #[.int .i64 t378, .int .i64 t379, .int .i64 t380, .slice Ao23 t381.length co23] 27 (0, 0)) (by (with_reducible repeat (first | refine blk_drewN ?_ _ | refine blk_drew ?_ | refine blk_alloc ?_ _)); exact BK385.out) hb); have n8_ := Aside0.mk (blk_below (g := gb393) (o := .cells #[.int .i64 t386, .slice Ao30 t387.length co30, .slice Ao31 t390.length co31] 34 (0, 0)) (by (with_reducible repeat (first | refine blk_drewN ?_ _ | refine blk_drew ?_ | refine blk_alloc ?_ _)); exact BK393.out) hb); have n9_ := Aside0.mk (blk_below (g := gb401) (o := .cells #[.int .i64 t394, .int .i64 t395, .int .i64 t396, .slice Ao38 t397.length co38] 27 (0, 0)) (by (with_reducible repeat (first | refine blk_drewN ?_ _ | refine blk_drew ?_ | refine blk_alloc ?_ _)); exact BK401.out) hb); have n10_ := Aside0.mk (below_step (by repeat (first | (with_reducible first | exact HB.out | apply below_alloc | apply pw_below_drewN | apply below_drew1 | refine below_set ?_ GE369.out | refine below_set ?_ GE385.out | refine below_set ?_ GE393.out | refine below_set ?_ GE401.out) | exact HB.out)) hb); clear HO_386003; clear HO_394001; clear HO_394002; clear HO_402003; clear HO406; clear HO409; clear BK369; clear BK385; clear BK393; clear BK401; clear HB; have HO_386003 := n0_; have HO_394001 := n1_; have HO_394002 := n2_; have HO_402003 := n3_; have HO406 := n4_; have HO409 := n5_; have BK369 := n6_; have BK385 := n7_; have BK393 := n8_; have BK401 := n9_; have HB := n10_; clear n0_ n1_ n2_ n3_ n4_ n5_ n6_ n7_ n8_ n9_ n10_; (try clear hb); (try clear hb2); (try clear hk); (try clear hi)))
                  go_meet
                  case rel => exact ⟨_, (true), (by first | rfl | (simp; done) | (simp [*]; done)), H', ⟨by have := HJ10.out; first | omega | exact Nat.le_refl _⟩, ⟨by (with_reducible repeat (first | apply Kd.R_alloc | apply Kd.R_drewN | apply Kd.R_drew)); exact Kd.R_mono HO_386003.out (fun _ hk => ⟨hk.1, ⟨hk.2.1, hk.2.2.1⟩⟩)⟩, ⟨by (with_reducible repeat (first | apply Kd.R_alloc | apply Kd.R_drewN | apply Kd.R_drew)); exact Kd.R_mono HO_394001.out (fun _ hk => ⟨hk.1.1.1, ⟨hk.1.1.2.1, hk.1.1.2.2⟩⟩)⟩, ⟨by (with_reducible repeat (first | apply Kd.R_alloc | apply Kd.R_drewN | apply Kd.R_drew)); exact Kd.R_mono HO_394002.out (fun _ hk => ⟨hk.1.1.1, ⟨hk.1.1.2.1, hk.1.1.2.2⟩⟩)⟩, ⟨by (with_reducible repeat (first | apply Kd.R_alloc | apply Kd.R_drewN | apply Kd.R_drew)); exact Kd.R_mono HO_402003.out (fun _ hk => ⟨hk.1, ⟨hk.2.1, hk.2.2.1⟩⟩)⟩, ⟨by (with_reducible repeat (first | refine blk_drewN ?_ _ | refine blk_drew ?_ | refine blk_alloc ?_ _)); exact BK369.out⟩, ⟨by (with_reducible repeat (first | refine blk_drewN ?_ _ | refine blk_drew ?_ | refine blk_alloc ?_ _)); exact BK385.out⟩, ⟨by (with_reducible repeat (first | refine blk_drewN ?_ _ | refine blk_drew ?_ | refine blk_alloc ?_ _)); exact BK393.out⟩, ⟨by (with_reducible repeat (first | refine blk_drewN ?_ _ | refine blk_drew ?_ | refine blk_alloc ?_ _)); exact BK401.out⟩, ⟨by repeat (first | (with_reducible first | exact HB.out | apply below_alloc | apply pw_below_drewN | apply below_drew1 | refine below_set ?_ GE369.out | refine below_set ?_ GE385.out | refine below_set ?_ GE393.out | refine below_set ?_ GE401.out) | exact HB.out)⟩⟩
            case rest =>
              clear HC62
              try clear c1
              try clear c2
              try clear p2
              try clear c3
              try clear c3b0
              try clear c4
              try clear c5
              try clear c6
              try clear c7
              try clear c8
              try clear c15
              try clear c16
              try clear c18
              try clear c20
              try clear c21
              try clear c23
              try clear c24
              try clear c25
              try clear c27
              try clear c28
              try clear c34
              try clear c35
              try clear c36
              try clear c40
              try clear c41
              try clear c42
              try clear c43
              try clear c45
              try clear c46
              try clear c49
              try clear c50
              try clear c51
              try clear c53
              try clear c54
              try clear c57
              try clear c60
              try clear c68
              try clear c69
              try clear c70
              try clear c73
              try clear c73b0
              try clear c75
              try clear c76
              try clear c77
              try clear c78
              try clear c80
              try clear c81
              try clear c84
              try clear c85
              try clear c86
              try clear c88
              try clear c89
              try clear hcz13_0
              try clear hcz13_1
              try clear hcz13_2
              try clear hcz15_0
              try clear hcz15_1
              try clear hcz15_2
              try clear hcz22_0
              try clear hcz22_1
              try clear hcz22_2
              try clear hcz22_3
              try clear hcz24_0
              try clear hcz24_1
              try clear hcz24_2
              try clear hcz29_0
              try clear hcz29_1
              try clear hcz29_2
              try clear hcz37_0
              try clear hcz37_1
              try clear hcz37_2
              try clear hcz37_3
              try clear hcz44_0
              try clear hcz44_1
              try clear hcz44_2
              try clear hcz44_3
              try clear hcz47_0
              try clear hcz47_1
              try clear hcz47_2
              try clear hcz47_3
              try clear hcz52_0
              try clear hcz52_1
              try clear hcz52_2
              try clear hcz52_3
              try clear hcz55_0
              try clear hcz55_1
              try clear hcz55_2
              try clear hcz55_3
              try clear hcz5_0
              try clear hcz5_1
              try clear hcz5_2
              try clear hcz71_0
              try clear hcz71_1
              try clear hcz71_2
              try clear hcz79_0
              try clear hcz79_1
              try clear hcz79_2
              try clear hcz79_3
              try clear hcz82_0
              try clear hcz82_1
              try clear hcz82_2
              try clear hcz82_3
              try clear hcz87_0
              try clear hcz87_1
              try clear hcz87_2
              try clear hcz87_3
              try clear hcz90_0
              try clear hcz90_1
              try clear hcz90_2
              try clear hcz90_3
              try clear hfz13_0
              try clear hfz13_1
              try clear hfz13_2
              try clear hfz15_0
              try clear hfz15_1
              try clear hfz15_2
              try clear hfz22_0
              try clear hfz22_1
              try clear hfz22_2
              try clear hfz22_3
              try clear hfz24_0
              try clear hfz24_1
              try clear hfz24_2
              try clear hfz29_0
              try clear hfz29_1
              try clear hfz29_2
              try clear hfz37_0
              try clear hfz37_1
              try clear hfz37_2
              try clear hfz37_3
              try clear hfz44_0
              try clear hfz44_1
              try clear hfz44_2
              try clear hfz44_3
              try clear hfz47_0
              try clear hfz47_1
              try clear hfz47_2
              try clear hfz47_3
              try clear hfz52_0
              try clear hfz52_1
              try clear hfz52_2
              try clear hfz52_3
              try clear hfz55_0
              try clear hfz55_1
              try clear hfz55_2
              try clear hfz55_3
              try clear hfz5_0
              try clear hfz5_1
              try clear hfz5_2
              try clear hfz71_0
              try clear hfz71_1
              try clear hfz71_2
              try clear hfz79_0
              try clear hfz79_1
              try clear hfz79_2
              try clear hfz79_3
              try clear hfz82_0
              try clear hfz82_1
              try clear hfz82_2
              try clear hfz82_3
              try clear hfz87_0
              try clear hfz87_1
              try clear hfz87_2
              try clear hfz87_3
              try clear hfz90_0
              try clear hfz90_1
              try clear hfz90_2
              try clear hfz90_3
              try clear p2
              obtain ⟨kq, x61_61, rfl, HA, HJ61, HO_386003, HO_394001, HO_394002, HO_402003, BK369, BK385, BK393, BK401, HB⟩ := hcut
              have hl394001_61 := (Kd.R_reads' HO_394001.out).1
              rw [hl394001_61] at HO_394001
              (try simp only [hl394001_61])
              (try simp only [hl394001_61] at BK369)
              (try simp only [hl394001_61] at BK385)
              (try simp only [hl394001_61] at BK393)
              (try simp only [hl394001_61] at BK401)
              (try simp only [hl394001_61] at HO_386003)
              (try simp only [hl394001_61] at HO_394002)
              (try simp only [hl394001_61] at HO_402003)
              have hl394002_61 := (Kd.R_reads' HO_394002.out).1
              rw [hl394002_61] at HO_394002
              (try simp only [hl394002_61])
              (try simp only [hl394002_61] at BK369)
              (try simp only [hl394002_61] at BK385)
              (try simp only [hl394002_61] at BK393)
              (try simp only [hl394002_61] at BK401)
              (try simp only [hl394002_61] at HO_386003)
              (try simp only [hl394002_61] at HO_394001)
              (try simp only [hl394002_61] at HO_402003)
              cases kq with
              | zero => exact absurd HA.out (by simp [laws_FnExactIncidenceMatrix.j1])
              | succ kj61 =>
                have H := HA.out
                clear HA
                simp only [laws_FnExactIncidenceMatrix.j1] at H
                by_cases c92 : x61_61 = true
                · subst c92
                  have H1 : (none) = some r := by rw [if_pos rfl] at H; exact H
                  clear H
                  have H := H1
                  clear H1
                  exact absurd H (by simp)
                · replace c92 := Bool.eq_false_iff.mpr c92
                  subst c92
                  have H1 : ((laws_markMatrix.f kj61 t394 t395 t396 t397 1).bind fun bt415 => ((laws_heldMatrix.f kj61 t394 t395 t396 bt415.2 1).bind fun t417 => (if t417 < 0 then (none) else (if t417 = bt415.1 then ((laws_toGraph.f kj61 a0_0 l0_1 l0_2).bind fun bt418 => ((impl_IncidenceMatrix.f kj61 bt418.1 bt418.2.1 bt418.2.2).bind fun bt425 => ((laws_eqMatrix.f kj61 bt425.1 bt425.2.1 bt425.2.2.1 bt425.2.2.2.1 t378 t379 t380 t381).bind fun t433 => (if t433 = true then (laws_FnExactIncidenceMatrix.j2 kj61 bt415.1 (bt425.2.2.2.2 != t384) t394 t395 t396 bt415.2) else (laws_FnExactIncidenceMatrix.j2 kj61 bt415.1 true t394 t395 t396 bt415.2))))) else (none))))) = some r := by rw [if_neg (show ¬ (false = true) by decide)] at H; exact H
                  clear H
                  have H := H1
                  clear H1
                  replace H := Option.bind_eq_some_iff.mp H
                  obtain ⟨⟨t415, t416⟩, A930, H⟩ := H
                  replace H : ((laws_heldMatrix.f kj61 t394 t395 t396 t416 1).bind fun t417 => (if t417 < 0 then (none) else (if t417 = t415 then ((laws_toGraph.f kj61 a0_0 l0_1 l0_2).bind fun bt418 => ((impl_IncidenceMatrix.f kj61 bt418.1 bt418.2.1 bt418.2.2).bind fun bt425 => ((laws_eqMatrix.f kj61 bt425.1 bt425.2.1 bt425.2.2.1 bt425.2.2.2.1 t378 t379 t380 t381).bind fun t433 => (if t433 = true then (laws_FnExactIncidenceMatrix.j2 kj61 t415 (bt425.2.2.2.2 != t384) t394 t395 t396 t416) else (laws_FnExactIncidenceMatrix.j2 kj61 t415 true t394 t395 t396 t416))))) else (none)))) = some r := H
                  have A93 := Aside0.mk A930
                  clear A930
                  replace H := Option.bind_eq_some_iff.mp H
                  obtain ⟨t417, A940, H⟩ := H
                  replace H : (if t417 < 0 then (none) else (if t417 = t415 then ((laws_toGraph.f kj61 a0_0 l0_1 l0_2).bind fun bt418 => ((impl_IncidenceMatrix.f kj61 bt418.1 bt418.2.1 bt418.2.2).bind fun bt425 => ((laws_eqMatrix.f kj61 bt425.1 bt425.2.1 bt425.2.2.1 bt425.2.2.2.1 t378 t379 t380 t381).bind fun t433 => (if t433 = true then (laws_FnExactIncidenceMatrix.j2 kj61 t415 (bt425.2.2.2.2 != t384) t394 t395 t396 t416) else (laws_FnExactIncidenceMatrix.j2 kj61 t415 true t394 t395 t396 t416))))) else (none))) = some r := H
                  have A94 := Aside0.mk A940
                  clear A940
                  by_cases c95 : t417 < 0
                  · rw [if_pos c95] at H
                    exact absurd H (by simp)
                  · rw [if_neg c95] at H
                    have c95b0 : decide (t417 < 0) = false := decide_eq_false c95
                    clear c95
                    by_cases c96 : t417 = t415
                    · rw [if_pos c96] at H
                      have c96b0 : (t417 == t415) = true := beq_iff_eq.mpr c96
                      have c96b1 : (t417 != t415) = false := bne_eq_false_iff_eq.mpr c96
                      clear c96
                      replace H := Option.bind_eq_some_iff.mp H
                      obtain ⟨⟨t418, t419, t422⟩, A970, H⟩ := H
                      replace H : ((impl_IncidenceMatrix.f kj61 t418 t419 t422).bind fun bt425 => ((laws_eqMatrix.f kj61 bt425.1 bt425.2.1 bt425.2.2.1 bt425.2.2.2.1 t378 t379 t380 t381).bind fun t433 => (if t433 = true then (laws_FnExactIncidenceMatrix.j2 kj61 t415 (bt425.2.2.2.2 != t384) t394 t395 t396 t416) else (laws_FnExactIncidenceMatrix.j2 kj61 t415 true t394 t395 t396 t416)))) = some r := H
                      have A97 := Aside0.mk A970
                      clear A970
                      replace H := Option.bind_eq_some_iff.mp H
                      obtain ⟨⟨t425, t426, t427, t428, t431⟩, A980, H⟩ := H
                      replace H : ((laws_eqMatrix.f kj61 t425 t426 t427 t428 t378 t379 t380 t381).bind fun t433 => (if t433 = true then (laws_FnExactIncidenceMatrix.j2 kj61 t415 (t431 != t384) t394 t395 t396 t416) else (laws_FnExactIncidenceMatrix.j2 kj61 t415 true t394 t395 t396 t416))) = some r := H
                      have A98 := Aside0.mk A980
                      clear A980
                      have HC99 := Aside0.mk H
                      clear H
                      have hnb100 := NB401_369.out
                      have hnc100 := NB369_401.out
                      have hnb101 := NB401_385.out
                      have hnc101 := NB385_401.out
                      have hnb102 := NB401_393.out
                      have hnc102 := NB393_401.out
                      have hcz103_0 : wc.cell? ⟨gb401, 0, none⟩ = some (.int .i64 t394) := (blk_cell BK401.out 0).trans rfl
                      have hcz103_1 : wc.cell? ⟨gb401, 1, none⟩ = some (.int .i64 t395) := (blk_cell BK401.out 1).trans rfl
                      have hcz103_2 : wc.cell? ⟨gb401, 2, none⟩ = some (.int .i64 t396) := (blk_cell BK401.out 2).trans rfl
                      have hcz103_3 : wc.cell? ⟨gb401, 3, none⟩ = some (.slice Ao38 t397.length co38) := (blk_cell BK401.out 3).trans rfl
                      have hfz103_0 := blk_frozen BK401.out 0
                      have hfz103_1 := blk_frozen BK401.out 1
                      have hfz103_2 := blk_frozen BK401.out 2
                      have hfz103_3 := blk_frozen BK401.out 3
                      go_upto_region 25 with (first | ((with_reducible refine gate_callee (f := 26) rfl ?_); refine goesL_ (some 64) rfl rfl Try.func26 (by kernel_rfl) rfl #[.agg #[.int .i64 t394, .int .i64 t395, .int .i64 t396, .slice Ao38 t397.length co38], .int .i64 1] rfl (by (try simp only [List.map_toArray, List.map_cons, List.map_nil]); first | done | rfl | (simp only [List.length_drop, List.length_take]; rfl)) ?_; (with_reducible refine (laws_markMatrix.calls kj61 t394 t395 t396 (fun k_ => some k_ = (.slice Ao38 t397.length co38 : Value).ownBlock) (.slice Ao38 t397.length co38) t397 1 t415 t416 w _ ?side1 ?side2 A93.out).mono ?_); (case side1 => repeat (first | (with_reducible first | exact HB.out | apply below_alloc | apply pw_below_drewN | apply below_drew1 | refine below_set ?_ GE369.out | refine below_set ?_ GE385.out | refine below_set ?_ GE393.out | refine below_set ?_ GE401.out) | exact HB.out)); (case side2 => exact Kd.R_tight rfl HO_402003.out); rintro e w104 ⟨rfl, hy0, hb, hkp⟩; refine ⟨_, rfl, ?_⟩; have n0_ := Aside0.mk (Kd.R_mono (ok' := fun k_ => some k_ ≠ (.slice Ao30 t412.length co30 : Value).ownBlock ∧ some k_ ≠ (.slice Ao31 t413.length co31 : Value).ownBlock ∧ some k_ ≠ (.slice Ao38 t397.length co38 : Value).ownBlock) (Kd.R_keptB (HO_386003.out) hkp (fun k_ hk_ hs_ => (hk_.2.2) hs_)) (fun k_ hk_ => ⟨hk_.1.1, hk_.1.2.1, hk_.1.2.2⟩)); have n1_ := Aside0.mk (Kd.R_mono (ok' := fun k_ => some k_ ≠ (.slice Ao23 t381.length co23 : Value).ownBlock ∧ some k_ ≠ (.slice Ao31 t413.length co31 : Value).ownBlock ∧ some k_ ≠ (.slice Ao38 t397.length co38 : Value).ownBlock) (Kd.R_keptB (HO_394001.out) hkp (fun k_ hk_ hs_ => (hk_.2.2) hs_)) (fun k_ hk_ => ⟨hk_.1.1, hk_.1.2.1, hk_.1.2.2⟩)); have n2_ := Aside0.mk (Kd.R_mono (ok' := fun k_ => some k_ ≠ (.slice Ao23 t381.length co23 : Value).ownBlock ∧ some k_ ≠ (.slice Ao30 t412.length co30 : Value).ownBlock ∧ some k_ ≠ (.slice Ao38 t397.length co38 : Value).ownBlock) (Kd.R_keptB (HO_394002.out) hkp (fun k_ hk_ hs_ => (hk_.2.2) hs_)) (fun k_ hk_ => ⟨hk_.1.1, hk_.1.2.1, hk_.1.2.2⟩)); have n3_ := Aside0.mk (Kd.R_reok rfl hy0 (fun k_ e_ => HO_402003.out.1 k_ e_)); have n4_ := Aside0.mk (blk_kept (by (with_reducible repeat (first | refine blk_drewN ?_ _ | refine blk_drew ?_ | refine blk_alloc ?_ _)); exact BK369.out) hkp (fun hs_ => (fun e_ => (Kd.R_ne HO_402003.out BK369.out (by decide)) e_) hs_)); have n5_ := Aside0.mk (blk_kept (by (with_reducible repeat (first | refine blk_drewN ?_ _ | refine blk_drew ?_ | refine blk_alloc ?_ _)); exact BK385.out) hkp (fun hs_ => (fun e_ => (Kd.R_ne HO_402003.out BK385.out (by decide)) e_) hs_)); have n6_ := Aside0.mk (blk_kept (by (with_reducible repeat (first | refine blk_drewN ?_ _ | refine blk_drew ?_ | refine blk_alloc ?_ _)); exact BK393.out) hkp (fun hs_ => (fun e_ => (Kd.R_ne HO_402003.out BK393.out (by decide)) e_) hs_)); have n7_ := Aside0.mk (blk_kept (by (with_reducible repeat (first | refine blk_drewN ?_ _ | refine blk_drew ?_ | refine blk_alloc ?_ _)); exact BK401.out) hkp (fun hs_ => (fun e_ => (Kd.R_ne HO_402003.out BK401.out (by decide)) e_) hs_)); have n8_ := Aside0.mk (hb); clear HO_386003; clear HO_394001; clear HO_394002; clear HO_402003; clear BK369; clear BK385; clear BK393; clear BK401; clear HB; have HO_386003 := n0_; have HO_394001 := n1_; have HO_394002 := n2_; have HO_402003 := n3_; have BK369 := n4_; have BK385 := n5_; have BK393 := n6_; have BK401 := n7_; have HB := n8_; clear n0_ n1_ n2_ n3_ n4_ n5_ n6_ n7_ n8_; (try clear hb); (try clear hkp); (try clear hy0); have hcz105_0 : w104.cell? ⟨gb401, 0, none⟩ = some (.int .i64 t394) := (blk_cell BK401.out 0).trans rfl; have hcz105_1 : w104.cell? ⟨gb401, 1, none⟩ = some (.int .i64 t395) := (blk_cell BK401.out 1).trans rfl; have hcz105_2 : w104.cell? ⟨gb401, 2, none⟩ = some (.int .i64 t396) := (blk_cell BK401.out 2).trans rfl; have hcz105_3 : w104.cell? ⟨gb401, 3, none⟩ = some (.slice Ao38 t397.length co38) := (blk_cell BK401.out 3).trans rfl; have hfz105_0 := blk_frozen BK401.out 0; have hfz105_1 := blk_frozen BK401.out 1; have hfz105_2 := blk_frozen BK401.out 2; have hfz105_3 := blk_frozen BK401.out 3) | ((with_reducible refine gate_callee (f := 27) rfl ?_); refine goesL_ (some 67) rfl rfl Try.func27 (by kernel_rfl) rfl #[.agg #[.int .i64 t394, .int .i64 t395, .int .i64 t396, .slice Ao38 t416.length co38], .int .i64 1] rfl (by (try simp only [List.map_toArray, List.map_cons, List.map_nil]); first | done | (rw [show t416.length = t397.length from (Kd.R_reads' HO_402003.out).1.symm] <;> rfl) | rfl | (simp only [List.length_drop, List.length_take]; rfl)) ?_; (with_reducible refine (laws_heldMatrix.calls kj61 t394 t395 t396 _ _ t416 1 t417 _ ?side1 ?side2 A94.out).mono ?_); (case side1 => repeat (first | exact (Kd.R_reads' HO_402003.out).2.2 | (with_reducible refine Kd.C_alloc ?_ _) | (with_reducible refine Kd.C_drewN ?_ _) | (with_reducible refine Kd.C_drew ?_))); (case side2 => rw [show t416.length = t397.length from (Kd.R_reads' HO_402003.out).1.symm]; exact (Kd.R_reads' HO_402003.out).2.1); rintro e w106 ⟨rfl, hb⟩; refine ⟨_, rfl, ?_⟩; have n0_ := Aside0.mk (Kd.R_below (by (with_reducible repeat (first | apply Kd.R_alloc | apply Kd.R_drewN | apply Kd.R_drew)); exact HO_386003.out) hb); have n1_ := Aside0.mk (Kd.R_below (by (with_reducible repeat (first | apply Kd.R_alloc | apply Kd.R_drewN | apply Kd.R_drew)); exact HO_394001.out) hb); have n2_ := Aside0.mk (Kd.R_below (by (with_reducible repeat (first | apply Kd.R_alloc | apply Kd.R_drewN | apply Kd.R_drew)); exact HO_394002.out) hb); have n3_ := Aside0.mk (Kd.R_below (by (with_reducible repeat (first | apply Kd.R_alloc | apply Kd.R_drewN | apply Kd.R_drew)); exact HO_402003.out) hb); have n4_ := Aside0.mk (blk_below (g := gb369) (o := .cells #[.int .i64 a0_0, .slice A0_1 l0_1.length c0_1, .slice A0_2 l0_2.length c0_2] 31 (0, 0)) (by (with_reducible repeat (first | refine blk_drewN ?_ _ | refine blk_drew ?_ | refine blk_alloc ?_ _)); exact BK369.out) hb); have n5_ := Aside0.mk (blk_below (g := gb385) (o := .cells #[.int .i64 t378, .int .i64 t379, .int .i64 t380, .slice Ao23 t381.length co23] 27 (0, 0)) (by (with_reducible repeat (first | refine blk_drewN ?_ _ | refine blk_drew ?_ | refine blk_alloc ?_ _)); exact BK385.out) hb); have n6_ := Aside0.mk (blk_below (g := gb393) (o := .cells #[.int .i64 t386, .slice Ao30 t412.length co30, .slice Ao31 t413.length co31] 34 (0, 0)) (by (with_reducible repeat (first | refine blk_drewN ?_ _ | refine blk_drew ?_ | refine blk_alloc ?_ _)); exact BK393.out) hb); have n7_ := Aside0.mk (blk_below (g := gb401) (o := .cells #[.int .i64 t394, .int .i64 t395, .int .i64 t396, .slice Ao38 t397.length co38] 27 (0, 0)) (by (with_reducible repeat (first | refine blk_drewN ?_ _ | refine blk_drew ?_ | refine blk_alloc ?_ _)); exact BK401.out) hb); have n8_ := Aside0.mk (below_step (by repeat (first | (with_reducible first | exact HB.out | apply below_alloc | apply pw_below_drewN | apply below_drew1 | refine below_set ?_ GE369.out | refine below_set ?_ GE385.out | refine below_set ?_ GE393.out | refine below_set ?_ GE401.out) | exact HB.out)) hb); clear HO_386003; clear HO_394001; clear HO_394002; clear HO_402003; clear BK369; clear BK385; clear BK393; clear BK401; clear HB; have HO_386003 := n0_; have HO_394001 := n1_; have HO_394002 := n2_; have HO_402003 := n3_; have BK369 := n4_; have BK385 := n5_; have BK393 := n6_; have BK401 := n7_; have HB := n8_; clear n0_ n1_ n2_ n3_ n4_ n5_ n6_ n7_ n8_; (try clear hb); (try clear hb2); (try clear hk); (try clear hi); have hnb107 := NB369_385.out; have hnc107 := NB385_369.out; have hnb108 := NB369_393.out; have hnc108 := NB393_369.out; have hcz109_0 : w106.cell? ⟨gb369, 0, none⟩ = some (.int .i64 a0_0) := (blk_cell BK369.out 0).trans rfl; have hcz109_1 : w106.cell? ⟨gb369, 1, none⟩ = some (.slice A0_1 l0_1.length c0_1) := (blk_cell BK369.out 1).trans rfl; have hcz109_2 : w106.cell? ⟨gb369, 2, none⟩ = some (.slice A0_2 l0_2.length c0_2) := (blk_cell BK369.out 2).trans rfl; have hfz109_0 := blk_frozen BK369.out 0; have hfz109_1 := blk_frozen BK369.out 1; have hfz109_2 := blk_frozen BK369.out 2) | ((with_reducible refine gate_callee (f := 18) rfl ?_); refine goesL_ (some 75) rfl rfl Try.func18 (by kernel_rfl) rfl #[.agg #[.int .i64 a0_0, .slice A0_1 l0_1.length c0_1, .slice A0_2 l0_2.length c0_2]] rfl (by (try simp only [List.map_toArray, List.map_cons, List.map_nil]); first | done | rfl | (simp only [List.length_drop, List.length_take]; rfl)) ?_; (with_reducible refine (laws_toGraph.calls kj61 a0_0 _ _ l0_1 _ _ l0_2 t418 t419 t422 _ ?side1 ?side2 ?side3 ?side4 A97.out).mono ?_); (case side1 => repeat (first | exact (Kd.C_below HR0_1.out HB.out) | (with_reducible refine Kd.C_alloc ?_ _) | (with_reducible refine Kd.C_drewN ?_ _) | (with_reducible refine Kd.C_drew ?_))); (case side2 => exact HC0_1.out); (case side3 => repeat (first | exact (Kd.C_below HR0_2.out HB.out) | (with_reducible refine Kd.C_alloc ?_ _) | (with_reducible refine Kd.C_drewN ?_ _) | (with_reducible refine Kd.C_drew ?_))); (case side4 => exact HC0_2.out); rintro e w110 ⟨v420, v423, rfl, ho0, ho1, hb⟩; refine ⟨_, rfl, ?_⟩; have n0_ := Aside0.mk (Kd.R_mono (Kd.R_told (Kd.R_told (Kd.R_old (by (with_reducible repeat (first | apply Kd.R_alloc | apply Kd.R_drewN | apply Kd.R_drew)); exact HO_386003.out) hb) (Kd.R_base ho0)) (Kd.R_base ho1)) (fun _ h_ => h_.1)); have n1_ := Aside0.mk (Kd.R_mono (Kd.R_told (Kd.R_told (Kd.R_old (by (with_reducible repeat (first | apply Kd.R_alloc | apply Kd.R_drewN | apply Kd.R_drew)); exact HO_394001.out) hb) (Kd.R_base ho0)) (Kd.R_base ho1)) (fun _ h_ => h_.1)); have n2_ := Aside0.mk (Kd.R_mono (Kd.R_told (Kd.R_told (Kd.R_old (by (with_reducible repeat (first | apply Kd.R_alloc | apply Kd.R_drewN | apply Kd.R_drew)); exact HO_394002.out) hb) (Kd.R_base ho0)) (Kd.R_base ho1)) (fun _ h_ => h_.1)); have n3_ := Aside0.mk (Kd.R_mono (Kd.R_told (Kd.R_told (Kd.R_old (by (with_reducible repeat (first | apply Kd.R_alloc | apply Kd.R_drewN | apply Kd.R_drew)); exact HO_402003.out) hb) (Kd.R_base ho0)) (Kd.R_base ho1)) (fun _ h_ => h_.1)); have n4_ := Aside0.mk (Kd.R_lower (Kd.R_new' (Kd.R_new' (Kd.R_new' (Kd.R_new' ho0 (Kd.R_lt (by (with_reducible repeat (first | apply Kd.R_alloc | apply Kd.R_drewN | apply Kd.R_drew)); exact HO_386003.out))) (Kd.R_lt (by (with_reducible repeat (first | apply Kd.R_alloc | apply Kd.R_drewN | apply Kd.R_drew)); exact HO_394001.out))) (Kd.R_lt (by (with_reducible repeat (first | apply Kd.R_alloc | apply Kd.R_drewN | apply Kd.R_drew)); exact HO_394002.out))) (Kd.R_lt (by (with_reducible repeat (first | apply Kd.R_alloc | apply Kd.R_drewN | apply Kd.R_drew)); exact HO_402003.out))) (below_size (by repeat (first | (with_reducible first | exact HB.out | apply below_alloc | apply pw_below_drewN | apply below_drew1 | refine below_set ?_ GE369.out | refine below_set ?_ GE385.out | refine below_set ?_ GE393.out | refine below_set ?_ GE401.out) | exact HB.out)))); have n5_ := Aside0.mk (Kd.R_lower (Kd.R_new' (Kd.R_new' (Kd.R_new' (Kd.R_new' ho1 (Kd.R_lt (by (with_reducible repeat (first | apply Kd.R_alloc | apply Kd.R_drewN | apply Kd.R_drew)); exact HO_386003.out))) (Kd.R_lt (by (with_reducible repeat (first | apply Kd.R_alloc | apply Kd.R_drewN | apply Kd.R_drew)); exact HO_394001.out))) (Kd.R_lt (by (with_reducible repeat (first | apply Kd.R_alloc | apply Kd.R_drewN | apply Kd.R_drew)); exact HO_394002.out))) (Kd.R_lt (by (with_reducible repeat (first | apply Kd.R_alloc | apply Kd.R_drewN | apply Kd.R_drew)); exact HO_402003.out))) (below_size (by repeat (first | (with_reducible first | exact HB.out | apply below_alloc | apply pw_below_drewN | apply below_drew1 | refine below_set ?_ GE369.out | refine below_set ?_ GE385.out | refine below_set ?_ GE393.out | refine below_set ?_ GE401.out) | exact HB.out)))); have n6_ := Aside0.mk (blk_below (g := gb369) (o := .cells #[.int .i64 a0_0, .slice A0_1 l0_1.length c0_1, .slice A0_2 l0_2.length c0_2] 31 (0, 0)) (by (with_reducible repeat (first | refine blk_drewN ?_ _ | refine blk_drew ?_ | refine blk_alloc ?_ _)); exact BK369.out) hb); have n7_ := Aside0.mk (blk_below (g := gb385) (o := .cells #[.int .i64 t378, .int .i64 t379, .int .i64 t380, .slice Ao23 t381.length co23] 27 (0, 0)) (by (with_reducible repeat (first | refine blk_drewN ?_ _ | refine blk_drew ?_ | refine blk_alloc ?_ _)); exact BK385.out) hb); have n8_ := Aside0.mk (blk_below (g := gb393) (o := .cells #[.int .i64 t386, .slice Ao30 t412.length co30, .slice Ao31 t413.length co31] 34 (0, 0)) (by (with_reducible repeat (first | refine blk_drewN ?_ _ | refine blk_drew ?_ | refine blk_alloc ?_ _)); exact BK393.out) hb); have n9_ := Aside0.mk (blk_below (g := gb401) (o := .cells #[.int .i64 t394, .int .i64 t395, .int .i64 t396, .slice Ao38 t397.length co38] 27 (0, 0)) (by (with_reducible repeat (first | refine blk_drewN ?_ _ | refine blk_drew ?_ | refine blk_alloc ?_ _)); exact BK401.out) hb); have n10_ := Aside0.mk (below_step (by repeat (first | (with_reducible first | exact HB.out | apply below_alloc | apply pw_below_drewN | apply below_drew1 | refine below_set ?_ GE369.out | refine below_set ?_ GE385.out | refine below_set ?_ GE393.out | refine below_set ?_ GE401.out) | exact HB.out)) hb); clear HO_386003; clear HO_394001; clear HO_394002; clear HO_402003; clear BK369; clear BK385; clear BK393; clear BK401; clear HB; have HO_386003 := n0_; have HO_394001 := n1_; have HO_394002 := n2_; have HO_402003 := n3_; have HO421 := n4_; have HO424 := n5_; have BK369 := n6_; have BK385 := n7_; have BK393 := n8_; have BK401 := n9_; have HB := n10_; clear n0_ n1_ n2_ n3_ n4_ n5_ n6_ n7_ n8_ n9_ n10_; (try clear hb); (try clear hb2); (try clear hk); (try clear hi); (try clear ho0); (try clear ho1); obtain ⟨Ao111, co111, eo111⟩ := Kd.R_slice HO421.out; subst eo111; obtain ⟨Ao112, co112, eo112⟩ := Kd.R_slice HO424.out; subst eo112) | ((with_reducible refine gate_callee (f := 24) rfl ?_); refine goesL_ (some 76) rfl rfl Try.func24 (by kernel_rfl) rfl #[.agg #[.int .i64 t418, .slice Ao111 t419.length co111, .slice Ao112 t422.length co112]] rfl (by (try simp only [List.map_toArray, List.map_cons, List.map_nil]); first | done | rfl | (simp only [List.length_drop, List.length_take]; rfl)) ?_; (with_reducible refine (impl_IncidenceMatrix.calls kj61 t418 _ _ t419 _ _ t422 t425 t426 t427 t428 t431 _ ?side1 ?side2 ?side3 ?side4 A98.out).mono ?_); (case side1 => repeat (first | exact (Kd.R_reads' HO421.out).2.2 | (with_reducible refine Kd.C_alloc ?_ _) | (with_reducible refine Kd.C_drewN ?_ _) | (with_reducible refine Kd.C_drew ?_))); (case side2 => exact (Kd.R_reads' HO421.out).2.1); (case side3 => repeat (first | exact (Kd.R_reads' HO424.out).2.2 | (with_reducible refine Kd.C_alloc ?_ _) | (with_reducible refine Kd.C_drewN ?_ _) | (with_reducible refine Kd.C_drew ?_))); (case side4 => exact (Kd.R_reads' HO424.out).2.1); rintro e w113 ⟨v429, rfl, ho0, hb⟩; refine ⟨_, rfl, ?_⟩; have n0_ := Aside0.mk (Kd.R_elder' (by (with_reducible repeat (first | apply Kd.R_alloc | apply Kd.R_drewN | apply Kd.R_drew)); exact HO_386003.out) (Kd.R_base ho0) hb); have n1_ := Aside0.mk (Kd.R_elder' (by (with_reducible repeat (first | apply Kd.R_alloc | apply Kd.R_drewN | apply Kd.R_drew)); exact HO_394001.out) (Kd.R_base ho0) hb); have n2_ := Aside0.mk (Kd.R_elder' (by (with_reducible repeat (first | apply Kd.R_alloc | apply Kd.R_drewN | apply Kd.R_drew)); exact HO_394002.out) (Kd.R_base ho0) hb); have n3_ := Aside0.mk (Kd.R_elder' (by (with_reducible repeat (first | apply Kd.R_alloc | apply Kd.R_drewN | apply Kd.R_drew)); exact HO_402003.out) (Kd.R_base ho0) hb); have n4_ := Aside0.mk (Kd.R_elder' (by (with_reducible repeat (first | apply Kd.R_alloc | apply Kd.R_drewN | apply Kd.R_drew)); exact HO421.out) (Kd.R_base ho0) hb); have n5_ := Aside0.mk (Kd.R_elder' (by (with_reducible repeat (first | apply Kd.R_alloc | apply Kd.R_drewN | apply Kd.R_drew)); exact HO424.out) (Kd.R_base ho0) hb); have n6_ := Aside0.mk (Kd.R_lower (Kd.R_new' (Kd.R_new' (Kd.R_new' (Kd.R_new' (Kd.R_new' (Kd.R_new' ho0 (Kd.R_lt (by (with_reducible repeat (first | apply Kd.R_alloc | apply Kd.R_drewN | apply Kd.R_drew)); exact HO_386003.out))) (Kd.R_lt (by (with_reducible repeat (first | apply Kd.R_alloc | apply Kd.R_drewN | apply Kd.R_drew)); exact HO_394001.out))) (Kd.R_lt (by (with_reducible repeat (first | apply Kd.R_alloc | apply Kd.R_drewN | apply Kd.R_drew)); exact HO_394002.out))) (Kd.R_lt (by (with_reducible repeat (first | apply Kd.R_alloc | apply Kd.R_drewN | apply Kd.R_drew)); exact HO_402003.out))) (Kd.R_lt (by (with_reducible repeat (first | apply Kd.R_alloc | apply Kd.R_drewN | apply Kd.R_drew)); exact HO421.out))) (Kd.R_lt (by (with_reducible repeat (first | apply Kd.R_alloc | apply Kd.R_drewN | apply Kd.R_drew)); exact HO424.out))) (below_size (by repeat (first | (with_reducible first | exact HB.out | apply below_alloc | apply pw_below_drewN | apply below_drew1 | refine below_set ?_ GE369.out | refine below_set ?_ GE385.out | refine below_set ?_ GE393.out | refine below_set ?_ GE401.out) | exact HB.out)))); have n7_ := Aside0.mk (blk_below (g := gb369) (o := .cells #[.int .i64 a0_0, .slice A0_1 l0_1.length c0_1, .slice A0_2 l0_2.length c0_2] 31 (0, 0)) (by (with_reducible repeat (first | refine blk_drewN ?_ _ | refine blk_drew ?_ | refine blk_alloc ?_ _)); exact BK369.out) hb); have n8_ := Aside0.mk (blk_below (g := gb385) (o := .cells #[.int .i64 t378, .int .i64 t379, .int .i64 t380, .slice Ao23 t381.length co23] 27 (0, 0)) (by (with_reducible repeat (first | refine blk_drewN ?_ _ | refine blk_drew ?_ | refine blk_alloc ?_ _)); exact BK385.out) hb); have n9_ := Aside0.mk (blk_below (g := gb393) (o := .cells #[.int .i64 t386, .slice Ao30 t412.length co30, .slice Ao31 t413.length co31] 34 (0, 0)) (by (with_reducible repeat (first | refine blk_drewN ?_ _ | refine blk_drew ?_ | refine blk_alloc ?_ _)); exact BK393.out) hb); have n10_ := Aside0.mk (blk_below (g := gb401) (o := .cells #[.int .i64 t394, .int .i64 t395, .int .i64 t396, .slice Ao38 t397.length co38] 27 (0, 0)) (by (with_reducible repeat (first | refine blk_drewN ?_ _ | refine blk_drew ?_ | refine blk_alloc ?_ _)); exact BK401.out) hb); have n11_ := Aside0.mk (below_step (by repeat (first | (with_reducible first | exact HB.out | apply below_alloc | apply pw_below_drewN | apply below_drew1 | refine below_set ?_ GE369.out | refine below_set ?_ GE385.out | refine below_set ?_ GE393.out | refine below_set ?_ GE401.out) | exact HB.out)) hb); clear HO_386003; clear HO_394001; clear HO_394002; clear HO_402003; clear HO421; clear HO424; clear BK369; clear BK385; clear BK393; clear BK401; clear HB; have HO_386003 := n0_; have HO_394001 := n1_; have HO_394002 := n2_; have HO_402003 := n3_; have HO421 := n4_; have HO424 := n5_; have HO430 := n6_; have BK369 := n7_; have BK385 := n8_; have BK393 := n9_; have BK401 := n10_; have HB := n11_; clear n0_ n1_ n2_ n3_ n4_ n5_ n6_ n7_ n8_ n9_ n10_ n11_; (try clear hb); (try clear hb2); (try clear hk); (try clear hi); (try clear ho0)) | ((with_reducible refine gate_dst (N := 12) rfl ?_); refine box_event ?hg (N := 12) ?hd (cs := #[.int .i64 0, .int .i64 0, .int .i64 0, .slice none 0 0]) (t := 27) ?hr ?_; (case hd => rfl); (case hg => rfl); (case hr => first | (go_simp; done) | (go_simp; rfl)); intro gb432 hg w114 hbox hb; have n0_ := Aside0.mk (Kd.R_below (by (with_reducible repeat (first | apply Kd.R_alloc | apply Kd.R_drewN | apply Kd.R_drew)); exact HO_386003.out) hb); have n1_ := Aside0.mk (Kd.R_below (by (with_reducible repeat (first | apply Kd.R_alloc | apply Kd.R_drewN | apply Kd.R_drew)); exact HO_394001.out) hb); have n2_ := Aside0.mk (Kd.R_below (by (with_reducible repeat (first | apply Kd.R_alloc | apply Kd.R_drewN | apply Kd.R_drew)); exact HO_394002.out) hb); have n3_ := Aside0.mk (Kd.R_below (by (with_reducible repeat (first | apply Kd.R_alloc | apply Kd.R_drewN | apply Kd.R_drew)); exact HO_402003.out) hb); have n4_ := Aside0.mk (Kd.R_below (by (with_reducible repeat (first | apply Kd.R_alloc | apply Kd.R_drewN | apply Kd.R_drew)); exact HO421.out) hb); have n5_ := Aside0.mk (Kd.R_below (by (with_reducible repeat (first | apply Kd.R_alloc | apply Kd.R_drewN | apply Kd.R_drew)); exact HO424.out) hb); have n6_ := Aside0.mk (Kd.R_below (by (with_reducible repeat (first | apply Kd.R_alloc | apply Kd.R_drewN | apply Kd.R_drew)); exact HO430.out) hb); have n7_ := Aside0.mk (blk_below (g := gb369) (o := .cells #[.int .i64 a0_0, .slice A0_1 l0_1.length c0_1, .slice A0_2 l0_2.length c0_2] 31 (0, 0)) (by (with_reducible repeat (first | refine blk_drewN ?_ _ | refine blk_drew ?_ | refine blk_alloc ?_ _)); exact BK369.out) hb); have n8_ := Aside0.mk (blk_below (g := gb385) (o := .cells #[.int .i64 t378, .int .i64 t379, .int .i64 t380, .slice Ao23 t381.length co23] 27 (0, 0)) (by (with_reducible repeat (first | refine blk_drewN ?_ _ | refine blk_drew ?_ | refine blk_alloc ?_ _)); exact BK385.out) hb); have n9_ := Aside0.mk (blk_below (g := gb393) (o := .cells #[.int .i64 t386, .slice Ao30 t412.length co30, .slice Ao31 t413.length co31] 34 (0, 0)) (by (with_reducible repeat (first | refine blk_drewN ?_ _ | refine blk_drew ?_ | refine blk_alloc ?_ _)); exact BK393.out) hb); have n10_ := Aside0.mk (blk_below (g := gb401) (o := .cells #[.int .i64 t394, .int .i64 t395, .int .i64 t396, .slice Ao38 t397.length co38] 27 (0, 0)) (by (with_reducible repeat (first | refine blk_drewN ?_ _ | refine blk_drew ?_ | refine blk_alloc ?_ _)); exact BK401.out) hb); have n11_ := Aside0.mk (below_step (by repeat (first | (with_reducible first | exact HB.out | apply below_alloc | apply pw_below_drewN | apply below_drew1 | refine below_set ?_ GE369.out | refine below_set ?_ GE385.out | refine below_set ?_ GE393.out | refine below_set ?_ GE401.out) | exact HB.out)) hb); have n12_ := Aside0.mk (hbox); have n13_ := Aside0.mk ((by rw [hg]; exact (below_size (by repeat (first | (with_reducible first | exact HB.out | apply below_alloc | apply pw_below_drewN | apply below_drew1 | refine below_set ?_ GE369.out | refine below_set ?_ GE385.out | refine below_set ?_ GE393.out | refine below_set ?_ GE401.out) | exact HB.out))) : w.heap.size ≤ gb432)); have n14_ := Aside0.mk ((by rw [hg]; exact (below_size (by repeat (first | (with_reducible first | exact HB.out | apply below_alloc | apply pw_below_drewN | apply below_drew1 | refine below_set ?_ GE369.out | refine below_set ?_ GE385.out | refine below_set ?_ GE393.out | refine below_set ?_ GE401.out) | exact HB.out))) : w.heap.size ≤ gb432)); have n15_ := Aside0.mk ((by rw [hg]; exact Nat.ne_of_lt (blk_lt (g := gb369) (o := .cells #[.int .i64 a0_0, .slice A0_1 l0_1.length c0_1, .slice A0_2 l0_2.length c0_2] 31 (0, 0)) (by (with_reducible repeat (first | refine blk_drewN ?_ _ | refine blk_drew ?_ | refine blk_alloc ?_ _)); exact BK369.out)) : gb369 ≠ gb432)); have n16_ := Aside0.mk ((by rw [hg]; exact Nat.ne_of_gt (blk_lt (g := gb369) (o := .cells #[.int .i64 a0_0, .slice A0_1 l0_1.length c0_1, .slice A0_2 l0_2.length c0_2] 31 (0, 0)) (by (with_reducible repeat (first | refine blk_drewN ?_ _ | refine blk_drew ?_ | refine blk_alloc ?_ _)); exact BK369.out)) : gb432 ≠ gb369)); have n17_ := Aside0.mk ((by rw [hg]; exact Nat.ne_of_lt (blk_lt (g := gb385) (o := .cells #[.int .i64 t378, .int .i64 t379, .int .i64 t380, .slice Ao23 t381.length co23] 27 (0, 0)) (by (with_reducible repeat (first | refine blk_drewN ?_ _ | refine blk_drew ?_ | refine blk_alloc ?_ _)); exact BK385.out)) : gb385 ≠ gb432)); have n18_ := Aside0.mk ((by rw [hg]; exact Nat.ne_of_gt (blk_lt (g := gb385) (o := .cells #[.int .i64 t378, .int .i64 t379, .int .i64 t380, .slice Ao23 t381.length co23] 27 (0, 0)) (by (with_reducible repeat (first | refine blk_drewN ?_ _ | refine blk_drew ?_ | refine blk_alloc ?_ _)); exact BK385.out)) : gb432 ≠ gb385)); have n19_ := Aside0.mk ((by rw [hg]; exact Nat.ne_of_lt (blk_lt (g := gb393) (o := .cells #[.int .i64 t386, .slice Ao30 t412.length co30, .slice Ao31 t413.length co31] 34 (0, 0)) (by (with_reducible repeat (first | refine blk_drewN ?_ _ | refine blk_drew ?_ | refine blk_alloc ?_ _)); exact BK393.out)) : gb393 ≠ gb432)); have n20_ := Aside0.mk ((by rw [hg]; exact Nat.ne_of_gt (blk_lt (g := gb393) (o := .cells #[.int .i64 t386, .slice Ao30 t412.length co30, .slice Ao31 t413.length co31] 34 (0, 0)) (by (with_reducible repeat (first | refine blk_drewN ?_ _ | refine blk_drew ?_ | refine blk_alloc ?_ _)); exact BK393.out)) : gb432 ≠ gb393)); have n21_ := Aside0.mk ((by rw [hg]; exact Nat.ne_of_lt (blk_lt (g := gb401) (o := .cells #[.int .i64 t394, .int .i64 t395, .int .i64 t396, .slice Ao38 t397.length co38] 27 (0, 0)) (by (with_reducible repeat (first | refine blk_drewN ?_ _ | refine blk_drew ?_ | refine blk_alloc ?_ _)); exact BK401.out)) : gb401 ≠ gb432)); have n22_ := Aside0.mk ((by rw [hg]; exact Nat.ne_of_gt (blk_lt (g := gb401) (o := .cells #[.int .i64 t394, .int .i64 t395, .int .i64 t396, .slice Ao38 t397.length co38] 27 (0, 0)) (by (with_reducible repeat (first | refine blk_drewN ?_ _ | refine blk_drew ?_ | refine blk_alloc ?_ _)); exact BK401.out)) : gb432 ≠ gb401)); clear HO_386003; clear HO_394001; clear HO_394002; clear HO_402003; clear HO421; clear HO424; clear HO430; clear BK369; clear BK385; clear BK393; clear BK401; clear HB; have HO_386003 := n0_; have HO_394001 := n1_; have HO_394002 := n2_; have HO_402003 := n3_; have HO421 := n4_; have HO424 := n5_; have HO430 := n6_; have BK369 := n7_; have BK385 := n8_; have BK393 := n9_; have BK401 := n10_; have HB := n11_; have BK432 := n12_; have GW432 := n13_; have GE432 := n14_; have NB369_432 := n15_; have NB432_369 := n16_; have NB385_432 := n17_; have NB432_385 := n18_; have NB393_432 := n19_; have NB432_393 := n20_; have NB401_432 := n21_; have NB432_401 := n22_; clear n0_ n1_ n2_ n3_ n4_ n5_ n6_ n7_ n8_ n9_ n10_ n11_ n12_ n13_ n14_ n15_ n16_ n17_ n18_ n19_ n20_ n21_ n22_; clear hb hbox hg; have hnb115 := NB432_369.out; have hnc115 := NB369_432.out; have hnb116 := NB432_385.out; have hnc116 := NB385_432.out; have hnb117 := NB432_393.out; have hnc117 := NB393_432.out; have hnb118 := NB432_401.out; have hnc118 := NB401_432.out; have hcz119_0 : w114.cell? ⟨gb432, 0, none⟩ = some (.int .i64 0) := (blk_cell BK432.out 0).trans rfl; have hcz119_1 : w114.cell? ⟨gb432, 1, none⟩ = some (.int .i64 0) := (blk_cell BK432.out 1).trans rfl; have hcz119_2 : w114.cell? ⟨gb432, 2, none⟩ = some (.int .i64 0) := (blk_cell BK432.out 2).trans rfl; have hcz119_3 : w114.cell? ⟨gb432, 3, none⟩ = some (.slice none 0 0) := (blk_cell BK432.out 3).trans rfl; have hfz119_0 := blk_frozen BK432.out 0; have hfz119_1 := blk_frozen BK432.out 1; have hfz119_2 := blk_frozen BK432.out 2; have hfz119_3 := blk_frozen BK432.out 3; obtain ⟨Ao120, co120, eo120⟩ := Kd.R_slice HO430.out; subst eo120))
                      (try simp only [Act.put, List.setIfInBounds_toArray, List.set_cons_zero, List.set_cons_succ])
                      go_cut [87] (fun v87 wc => ∃ (kq : Nat) (x87_98 : Bool), v87 = .bool x87_98 ∧ Aside0 (laws_FnExactIncidenceMatrix.j2 kq t415 x87_98 t394 t395 t396 t416 = some r) ∧ Aside0 (kq ≤ kj61) ∧ Aside0 (Kd.R (Kd.int .i64) 3 wc w.heap.size (fun k_ => some k_ ≠ ((.slice Ao30 t412.length co30) : Value).ownBlock ∧ some k_ ≠ ((.slice Ao31 t413.length co31) : Value).ownBlock ∧ some k_ ≠ ((.slice Ao38 t397.length co38) : Value).ownBlock ∧ some k_ ≠ ((.slice Ao120 t428.length co120) : Value).ownBlock) (.slice Ao23 t381.length co23) t381) ∧ Aside0 (Kd.R (Kd.int .i64) 3 wc w.heap.size (fun k_ => some k_ ≠ ((.slice Ao23 t381.length co23) : Value).ownBlock ∧ some k_ ≠ ((.slice Ao31 t413.length co31) : Value).ownBlock ∧ some k_ ≠ ((.slice Ao38 t397.length co38) : Value).ownBlock ∧ some k_ ≠ ((.slice Ao120 t428.length co120) : Value).ownBlock) (.slice Ao30 t412.length co30) t412) ∧ Aside0 (Kd.R (Kd.int .i64) 3 wc w.heap.size (fun k_ => some k_ ≠ ((.slice Ao23 t381.length co23) : Value).ownBlock ∧ some k_ ≠ ((.slice Ao30 t412.length co30) : Value).ownBlock ∧ some k_ ≠ ((.slice Ao38 t397.length co38) : Value).ownBlock ∧ some k_ ≠ ((.slice Ao120 t428.length co120) : Value).ownBlock) (.slice Ao31 t413.length co31) t413) ∧ Aside0 (Kd.R (Kd.int .i64) 3 wc w.heap.size (fun k_ => some k_ ≠ ((.slice Ao23 t381.length co23) : Value).ownBlock ∧ some k_ ≠ ((.slice Ao30 t412.length co30) : Value).ownBlock ∧ some k_ ≠ ((.slice Ao31 t413.length co31) : Value).ownBlock ∧ some k_ ≠ ((.slice Ao120 t428.length co120) : Value).ownBlock) (.slice Ao38 t397.length co38) t416) ∧ Aside0 (Kd.R (Kd.int .i64) 3 wc w.heap.size (fun k_ => some k_ ≠ ((.slice Ao23 t381.length co23) : Value).ownBlock ∧ some k_ ≠ ((.slice Ao30 t412.length co30) : Value).ownBlock ∧ some k_ ≠ ((.slice Ao31 t413.length co31) : Value).ownBlock ∧ some k_ ≠ ((.slice Ao38 t397.length co38) : Value).ownBlock) (.slice Ao120 t428.length co120) t428) ∧ Aside0 (wc.heap[gb369]? = some (.cells #[.int .i64 a0_0, (.slice A0_1 l0_1.length c0_1), (.slice A0_2 l0_2.length c0_2)] 31 (0, 0))) ∧ Aside0 (wc.heap[gb385]? = some (.cells #[.int .i64 t378, .int .i64 t379, .int .i64 t380, (.slice Ao23 t381.length co23)] 27 (0, 0))) ∧ Aside0 (wc.heap[gb393]? = some (.cells #[.int .i64 t386, (.slice Ao30 t412.length co30), (.slice Ao31 t413.length co31)] 34 (0, 0))) ∧ Aside0 (wc.heap[gb401]? = some (.cells #[.int .i64 t394, .int .i64 t395, .int .i64 t396, (.slice Ao38 t397.length co38)] 27 (0, 0))) ∧ Aside0 (wc.heap[gb432]? = some (.cells #[.int .i64 t425, .int .i64 t426, .int .i64 t427, (.slice Ao120 t428.length co120)] 27 (0, 0))) ∧ Aside0 (Below w.heap.size w wc))
                      case first =>
                        have H := HC99.out
                        clear HC99
                        replace H := Option.bind_eq_some_iff.mp H
                        obtain ⟨t433, A1210, H⟩ := H
                        replace H : (if t433 = true then (laws_FnExactIncidenceMatrix.j2 kj61 t415 (t431 != t384) t394 t395 t396 t416) else (laws_FnExactIncidenceMatrix.j2 kj61 t415 true t394 t395 t396 t416)) = some r := H
                        have A121 := Aside0.mk A1210
                        clear A1210
                        by_cases c122 : t433 = true
                        · subst c122
                          have H1 : (laws_FnExactIncidenceMatrix.j2 kj61 t415 (t431 != t384) t394 t395 t396 t416) = some r := by rw [if_pos rfl] at H; exact H
                          clear H
                          have H := H1
                          clear H1
                          have H' := Aside0.mk H
                          clear H
                          have hnb123 := NB432_369.out
                          have hnc123 := NB369_432.out
                          have hnb124 := NB432_385.out
                          have hnc124 := NB385_432.out
                          have hnb125 := NB432_393.out
                          have hnc125 := NB393_432.out
                          have hnb126 := NB432_401.out
                          have hnc126 := NB401_432.out
                          have hcz127_0 : w114.cell? ⟨gb432, 0, none⟩ = some (.int .i64 0) := (blk_cell BK432.out 0).trans rfl
                          have hcz127_1 : w114.cell? ⟨gb432, 1, none⟩ = some (.int .i64 0) := (blk_cell BK432.out 1).trans rfl
                          have hcz127_2 : w114.cell? ⟨gb432, 2, none⟩ = some (.int .i64 0) := (blk_cell BK432.out 2).trans rfl
                          have hcz127_3 : w114.cell? ⟨gb432, 3, none⟩ = some (.slice none 0 0) := (blk_cell BK432.out 3).trans rfl
                          have hfz127_0 := blk_frozen BK432.out 0
                          have hfz127_1 := blk_frozen BK432.out 1
                          have hfz127_2 := blk_frozen BK432.out 2
                          have hfz127_3 := blk_frozen BK432.out 3
                          have hnb128 := NB385_369.out
                          have hnc128 := NB369_385.out
                          have hnb129 := NB385_393.out
                          have hnc129 := NB393_385.out
                          have hnb130 := NB385_401.out
                          have hnc130 := NB401_385.out
                          have hcz131_0 : w114.cell? ⟨gb385, 0, none⟩ = some (.int .i64 t378) := (blk_cell BK385.out 0).trans rfl
                          have hcz131_1 : w114.cell? ⟨gb385, 1, none⟩ = some (.int .i64 t379) := (blk_cell BK385.out 1).trans rfl
                          have hcz131_2 : w114.cell? ⟨gb385, 2, none⟩ = some (.int .i64 t380) := (blk_cell BK385.out 2).trans rfl
                          have hcz131_3 : w114.cell? ⟨gb385, 3, none⟩ = some (.slice Ao23 t381.length co23) := (blk_cell BK385.out 3).trans rfl
                          have hfz131_0 := blk_frozen BK385.out 0
                          have hfz131_1 := blk_frozen BK385.out 1
                          have hfz131_2 := blk_frozen BK385.out 2
                          have hfz131_3 := blk_frozen BK385.out 3
                          go_wp2_with (first | ((with_reducible refine gate_callee (f := 15) rfl ?_); refine goesL_ (some 81) rfl rfl Try.func15 (by kernel_rfl) rfl #[.agg #[.int .i64 t425, .int .i64 t426, .int .i64 t427, .slice Ao120 t428.length co120], .agg #[.int .i64 t378, .int .i64 t379, .int .i64 t380, .slice Ao23 t381.length co23]] rfl (by (try simp only [List.map_toArray, List.map_cons, List.map_nil]); first | done | rfl | (simp only [List.length_drop, List.length_take]; rfl)) ?_; (with_reducible refine (laws_eqMatrix.calls kj61 t425 t426 t427 _ _ t428 t378 t379 t380 _ _ t381 true _ ?side1 ?side2 ?side3 ?side4 A121.out).mono ?_); (case side1 => refine (Kd.R_reads' (e := 3) (base := w.heap.size) (ok := fun k_ => ((((((True ∧ some k_ ≠ (.slice Ao23 t381.length co23 : Value).ownBlock) ∧ some k_ ≠ (.slice Ao30 t412.length co30 : Value).ownBlock) ∧ some k_ ≠ (.slice Ao31 t413.length co31 : Value).ownBlock) ∧ some k_ ≠ (.slice Ao38 t397.length co38 : Value).ownBlock) ∧ some k_ ≠ (.slice Ao111 t419.length co111 : Value).ownBlock) ∧ some k_ ≠ (.slice Ao112 t422.length co112 : Value).ownBlock)) (n := t428.length) (c := co120) ?_).2.2; exact (by (with_reducible repeat (first | apply Kd.R_alloc | apply Kd.R_drewN | apply Kd.R_drew)); exact (Kd.R_mono (Kd.R_far (p := ⟨gb432, 3, none⟩) (Kd.R_far (p := ⟨gb432, 2, none⟩) (Kd.R_far (p := ⟨gb432, 1, none⟩) (Kd.R_far (p := ⟨gb432, 0, none⟩) (Kd.R_types HO430.out BK432.out (by decide)) (fun _ hk => hk.2) (.int .i64 t425)) (fun _ hk => hk.2) (.int .i64 t426)) (fun _ hk => hk.2) (.int .i64 t427)) (fun _ hk => hk.2) (.slice Ao120 t428.length co120)) (fun _ h_ => h_.1)))); (case side2 => exact (Kd.R_reads' HO430.out).2.1); (case side3 => refine (Kd.R_reads' (e := 3) (base := w.heap.size) (ok := fun k_ => ((((some k_ ≠ (.slice Ao30 t412.length co30 : Value).ownBlock ∧ (some k_ ≠ (.slice Ao31 t413.length co31 : Value).ownBlock ∧ some k_ ≠ (.slice Ao38 t397.length co38 : Value).ownBlock)) ∧ some k_ ≠ (.slice Ao111 t419.length co111 : Value).ownBlock) ∧ some k_ ≠ (.slice Ao112 t422.length co112 : Value).ownBlock) ∧ some k_ ≠ (.slice Ao120 t428.length co120 : Value).ownBlock)) (n := t381.length) (c := co23) ?_).2.2; exact (by (with_reducible repeat (first | apply Kd.R_alloc | apply Kd.R_drewN | apply Kd.R_drew)); exact (Kd.R_mono (Kd.R_far (p := ⟨gb432, 3, none⟩) (Kd.R_far (p := ⟨gb432, 2, none⟩) (Kd.R_far (p := ⟨gb432, 1, none⟩) (Kd.R_far (p := ⟨gb432, 0, none⟩) (Kd.R_types HO_386003.out BK432.out (by decide)) (fun _ hk => hk.2) (.int .i64 t425)) (fun _ hk => hk.2) (.int .i64 t426)) (fun _ hk => hk.2) (.int .i64 t427)) (fun _ hk => hk.2) (.slice Ao120 t428.length co120)) (fun _ h_ => h_.1)))); (case side4 => exact (Kd.R_reads' HO_386003.out).2.1); rintro e w132 ⟨rfl, hb⟩; refine ⟨_, rfl, ?_⟩; have n0_ := Aside0.mk (Kd.R_below (by (with_reducible repeat (first | apply Kd.R_alloc | apply Kd.R_drewN | apply Kd.R_drew)); exact (Kd.R_mono (Kd.R_far (p := ⟨gb432, 3, none⟩) (Kd.R_far (p := ⟨gb432, 2, none⟩) (Kd.R_far (p := ⟨gb432, 1, none⟩) (Kd.R_far (p := ⟨gb432, 0, none⟩) (Kd.R_types HO_386003.out BK432.out (by decide)) (fun _ hk => hk.2) (.int .i64 t425)) (fun _ hk => hk.2) (.int .i64 t426)) (fun _ hk => hk.2) (.int .i64 t427)) (fun _ hk => hk.2) (.slice Ao120 t428.length co120)) (fun _ h_ => h_.1))) hb); have n1_ := Aside0.mk (Kd.R_below (by (with_reducible repeat (first | apply Kd.R_alloc | apply Kd.R_drewN | apply Kd.R_drew)); exact (Kd.R_mono (Kd.R_far (p := ⟨gb432, 3, none⟩) (Kd.R_far (p := ⟨gb432, 2, none⟩) (Kd.R_far (p := ⟨gb432, 1, none⟩) (Kd.R_far (p := ⟨gb432, 0, none⟩) (Kd.R_types HO_394001.out BK432.out (by decide)) (fun _ hk => hk.2) (.int .i64 t425)) (fun _ hk => hk.2) (.int .i64 t426)) (fun _ hk => hk.2) (.int .i64 t427)) (fun _ hk => hk.2) (.slice Ao120 t428.length co120)) (fun _ h_ => h_.1))) hb); have n2_ := Aside0.mk (Kd.R_below (by (with_reducible repeat (first | apply Kd.R_alloc | apply Kd.R_drewN | apply Kd.R_drew)); exact (Kd.R_mono (Kd.R_far (p := ⟨gb432, 3, none⟩) (Kd.R_far (p := ⟨gb432, 2, none⟩) (Kd.R_far (p := ⟨gb432, 1, none⟩) (Kd.R_far (p := ⟨gb432, 0, none⟩) (Kd.R_types HO_394002.out BK432.out (by decide)) (fun _ hk => hk.2) (.int .i64 t425)) (fun _ hk => hk.2) (.int .i64 t426)) (fun _ hk => hk.2) (.int .i64 t427)) (fun _ hk => hk.2) (.slice Ao120 t428.length co120)) (fun _ h_ => h_.1))) hb); have n3_ := Aside0.mk (Kd.R_below (by (with_reducible repeat (first | apply Kd.R_alloc | apply Kd.R_drewN | apply Kd.R_drew)); exact (Kd.R_mono (Kd.R_far (p := ⟨gb432, 3, none⟩) (Kd.R_far (p := ⟨gb432, 2, none⟩) (Kd.R_far (p := ⟨gb432, 1, none⟩) (Kd.R_far (p := ⟨gb432, 0, none⟩) (Kd.R_types HO_402003.out BK432.out (by decide)) (fun _ hk => hk.2) (.int .i64 t425)) (fun _ hk => hk.2) (.int .i64 t426)) (fun _ hk => hk.2) (.int .i64 t427)) (fun _ hk => hk.2) (.slice Ao120 t428.length co120)) (fun _ h_ => h_.1))) hb); have n4_ := Aside0.mk (Kd.R_below (by (with_reducible repeat (first | apply Kd.R_alloc | apply Kd.R_drewN | apply Kd.R_drew)); exact (Kd.R_mono (Kd.R_far (p := ⟨gb432, 3, none⟩) (Kd.R_far (p := ⟨gb432, 2, none⟩) (Kd.R_far (p := ⟨gb432, 1, none⟩) (Kd.R_far (p := ⟨gb432, 0, none⟩) (Kd.R_types HO421.out BK432.out (by decide)) (fun _ hk => hk.2) (.int .i64 t425)) (fun _ hk => hk.2) (.int .i64 t426)) (fun _ hk => hk.2) (.int .i64 t427)) (fun _ hk => hk.2) (.slice Ao120 t428.length co120)) (fun _ h_ => h_.1))) hb); have n5_ := Aside0.mk (Kd.R_below (by (with_reducible repeat (first | apply Kd.R_alloc | apply Kd.R_drewN | apply Kd.R_drew)); exact (Kd.R_mono (Kd.R_far (p := ⟨gb432, 3, none⟩) (Kd.R_far (p := ⟨gb432, 2, none⟩) (Kd.R_far (p := ⟨gb432, 1, none⟩) (Kd.R_far (p := ⟨gb432, 0, none⟩) (Kd.R_types HO424.out BK432.out (by decide)) (fun _ hk => hk.2) (.int .i64 t425)) (fun _ hk => hk.2) (.int .i64 t426)) (fun _ hk => hk.2) (.int .i64 t427)) (fun _ hk => hk.2) (.slice Ao120 t428.length co120)) (fun _ h_ => h_.1))) hb); have n6_ := Aside0.mk (Kd.R_below (by (with_reducible repeat (first | apply Kd.R_alloc | apply Kd.R_drewN | apply Kd.R_drew)); exact (Kd.R_mono (Kd.R_far (p := ⟨gb432, 3, none⟩) (Kd.R_far (p := ⟨gb432, 2, none⟩) (Kd.R_far (p := ⟨gb432, 1, none⟩) (Kd.R_far (p := ⟨gb432, 0, none⟩) (Kd.R_types HO430.out BK432.out (by decide)) (fun _ hk => hk.2) (.int .i64 t425)) (fun _ hk => hk.2) (.int .i64 t426)) (fun _ hk => hk.2) (.int .i64 t427)) (fun _ hk => hk.2) (.slice Ao120 t428.length co120)) (fun _ h_ => h_.1))) hb); have n7_ := Aside0.mk (blk_below (g := gb369) (o := .cells #[.int .i64 a0_0, .slice A0_1 l0_1.length c0_1, .slice A0_2 l0_2.length c0_2] 31 (0, 0)) (by (with_reducible repeat (first | refine blk_drewN ?_ _ | refine blk_drew ?_ | refine blk_alloc ?_ _)); refine blk_far ?_ NB369_432.out _; (with_reducible repeat (first | refine blk_drewN ?_ _ | refine blk_drew ?_ | refine blk_alloc ?_ _)); refine blk_far ?_ NB369_432.out _; (with_reducible repeat (first | refine blk_drewN ?_ _ | refine blk_drew ?_ | refine blk_alloc ?_ _)); refine blk_far ?_ NB369_432.out _; (with_reducible repeat (first | refine blk_drewN ?_ _ | refine blk_drew ?_ | refine blk_alloc ?_ _)); refine blk_far ?_ NB369_432.out _; (with_reducible repeat (first | refine blk_drewN ?_ _ | refine blk_drew ?_ | refine blk_alloc ?_ _)); exact BK369.out) hb); have n8_ := Aside0.mk (blk_below (g := gb385) (o := .cells #[.int .i64 t378, .int .i64 t379, .int .i64 t380, .slice Ao23 t381.length co23] 27 (0, 0)) (by (with_reducible repeat (first | refine blk_drewN ?_ _ | refine blk_drew ?_ | refine blk_alloc ?_ _)); refine blk_far ?_ NB385_432.out _; (with_reducible repeat (first | refine blk_drewN ?_ _ | refine blk_drew ?_ | refine blk_alloc ?_ _)); refine blk_far ?_ NB385_432.out _; (with_reducible repeat (first | refine blk_drewN ?_ _ | refine blk_drew ?_ | refine blk_alloc ?_ _)); refine blk_far ?_ NB385_432.out _; (with_reducible repeat (first | refine blk_drewN ?_ _ | refine blk_drew ?_ | refine blk_alloc ?_ _)); refine blk_far ?_ NB385_432.out _; (with_reducible repeat (first | refine blk_drewN ?_ _ | refine blk_drew ?_ | refine blk_alloc ?_ _)); exact BK385.out) hb); have n9_ := Aside0.mk (blk_below (g := gb393) (o := .cells #[.int .i64 t386, .slice Ao30 t412.length co30, .slice Ao31 t413.length co31] 34 (0, 0)) (by (with_reducible repeat (first | refine blk_drewN ?_ _ | refine blk_drew ?_ | refine blk_alloc ?_ _)); refine blk_far ?_ NB393_432.out _; (with_reducible repeat (first | refine blk_drewN ?_ _ | refine blk_drew ?_ | refine blk_alloc ?_ _)); refine blk_far ?_ NB393_432.out _; (with_reducible repeat (first | refine blk_drewN ?_ _ | refine blk_drew ?_ | refine blk_alloc ?_ _)); refine blk_far ?_ NB393_432.out _; (with_reducible repeat (first | refine blk_drewN ?_ _ | refine blk_drew ?_ | refine blk_alloc ?_ _)); refine blk_far ?_ NB393_432.out _; (with_reducible repeat (first | refine blk_drewN ?_ _ | refine blk_drew ?_ | refine blk_alloc ?_ _)); exact BK393.out) hb); have n10_ := Aside0.mk (blk_below (g := gb401) (o := .cells #[.int .i64 t394, .int .i64 t395, .int .i64 t396, .slice Ao38 t397.length co38] 27 (0, 0)) (by (with_reducible repeat (first | refine blk_drewN ?_ _ | refine blk_drew ?_ | refine blk_alloc ?_ _)); refine blk_far ?_ NB401_432.out _; (with_reducible repeat (first | refine blk_drewN ?_ _ | refine blk_drew ?_ | refine blk_alloc ?_ _)); refine blk_far ?_ NB401_432.out _; (with_reducible repeat (first | refine blk_drewN ?_ _ | refine blk_drew ?_ | refine blk_alloc ?_ _)); refine blk_far ?_ NB401_432.out _; (with_reducible repeat (first | refine blk_drewN ?_ _ | refine blk_drew ?_ | refine blk_alloc ?_ _)); refine blk_far ?_ NB401_432.out _; (with_reducible repeat (first | refine blk_drewN ?_ _ | refine blk_drew ?_ | refine blk_alloc ?_ _)); exact BK401.out) hb); have n11_ := Aside0.mk (blk_below (g := gb432) (o := .cells #[.int .i64 t425, .int .i64 t426, .int .i64 t427, .slice Ao120 t428.length co120] 27 (0, 0)) (by (with_reducible repeat (first | refine blk_drewN ?_ _ | refine blk_drew ?_ | refine blk_alloc ?_ _)); refine blk_put (cs := #[.int .i64 t425, .int .i64 t426, .int .i64 t427, .slice none 0 0]) ?_ 3 _ rfl; (with_reducible repeat (first | refine blk_drewN ?_ _ | refine blk_drew ?_ | refine blk_alloc ?_ _)); refine blk_put (cs := #[.int .i64 t425, .int .i64 t426, .int .i64 0, .slice none 0 0]) ?_ 2 _ rfl; (with_reducible repeat (first | refine blk_drewN ?_ _ | refine blk_drew ?_ | refine blk_alloc ?_ _)); refine blk_put (cs := #[.int .i64 t425, .int .i64 0, .int .i64 0, .slice none 0 0]) ?_ 1 _ rfl; (with_reducible repeat (first | refine blk_drewN ?_ _ | refine blk_drew ?_ | refine blk_alloc ?_ _)); refine blk_put (cs := #[.int .i64 0, .int .i64 0, .int .i64 0, .slice none 0 0]) ?_ 0 _ rfl; (with_reducible repeat (first | refine blk_drewN ?_ _ | refine blk_drew ?_ | refine blk_alloc ?_ _)); exact BK432.out) hb); have n12_ := Aside0.mk (below_step (by repeat (first | (with_reducible first | exact HB.out | apply below_alloc | apply pw_below_drewN | apply below_drew1 | refine below_set ?_ GE369.out | refine below_set ?_ GE385.out | refine below_set ?_ GE393.out | refine below_set ?_ GE401.out | refine below_set ?_ GE432.out) | exact HB.out)) hb); clear HO_386003; clear HO_394001; clear HO_394002; clear HO_402003; clear HO421; clear HO424; clear HO430; clear BK369; clear BK385; clear BK393; clear BK401; clear BK432; clear HB; have HO_386003 := n0_; have HO_394001 := n1_; have HO_394002 := n2_; have HO_402003 := n3_; have HO421 := n4_; have HO424 := n5_; have HO430 := n6_; have BK369 := n7_; have BK385 := n8_; have BK393 := n9_; have BK401 := n10_; have BK432 := n11_; have HB := n12_; clear n0_ n1_ n2_ n3_ n4_ n5_ n6_ n7_ n8_ n9_ n10_ n11_ n12_; (try clear hb); (try clear hb2); (try clear hk); (try clear hi)))
                          go_meet
                          case rel => exact ⟨_, ((t431 != t384)), (by first | rfl | (simp; done) | (simp [*]; done)), H', ⟨by have := HJ10.out; have := HJ61.out; first | omega | exact Nat.le_refl _⟩, ⟨by (try simp only [hl394001_61]); (try simp only [hl394002_61]); (with_reducible repeat (first | apply Kd.R_alloc | apply Kd.R_drewN | apply Kd.R_drew)); exact Kd.R_mono HO_386003.out (fun _ hk => ⟨hk.1.1.1.1, ⟨hk.1.1.1.2.1, ⟨hk.1.1.1.2.2, hk.2⟩⟩⟩)⟩, ⟨by (try simp only [hl394001_61]); (try simp only [hl394002_61]); (with_reducible repeat (first | apply Kd.R_alloc | apply Kd.R_drewN | apply Kd.R_drew)); exact Kd.R_mono HO_394001.out (fun _ hk => ⟨hk.1.1.1.1, ⟨hk.1.1.1.2.1, ⟨hk.1.1.1.2.2, hk.2⟩⟩⟩)⟩, ⟨by (try simp only [hl394001_61]); (try simp only [hl394002_61]); (with_reducible repeat (first | apply Kd.R_alloc | apply Kd.R_drewN | apply Kd.R_drew)); exact Kd.R_mono HO_394002.out (fun _ hk => ⟨hk.1.1.1.1, ⟨hk.1.1.1.2.1, ⟨hk.1.1.1.2.2, hk.2⟩⟩⟩)⟩, ⟨by (try simp only [hl394001_61]); (try simp only [hl394002_61]); (with_reducible repeat (first | apply Kd.R_alloc | apply Kd.R_drewN | apply Kd.R_drew)); exact Kd.R_mono HO_402003.out (fun _ hk => ⟨hk.1.1.1.1, ⟨hk.1.1.1.2.1, ⟨hk.1.1.1.2.2, hk.2⟩⟩⟩)⟩, ⟨by (try simp only [hl394001_61]); (try simp only [hl394002_61]); (with_reducible repeat (first | apply Kd.R_alloc | apply Kd.R_drewN | apply Kd.R_drew)); exact Kd.R_mono HO430.out (fun _ hk => ⟨hk.1.1.1.1.1.2, ⟨hk.1.1.1.1.2, ⟨hk.1.1.1.2, hk.1.1.2⟩⟩⟩)⟩, ⟨by (try simp only [hl394001_61]); (try simp only [hl394002_61]); (with_reducible repeat (first | refine blk_drewN ?_ _ | refine blk_drew ?_ | refine blk_alloc ?_ _)); exact BK369.out⟩, ⟨by (try simp only [hl394001_61]); (try simp only [hl394002_61]); (with_reducible repeat (first | refine blk_drewN ?_ _ | refine blk_drew ?_ | refine blk_alloc ?_ _)); exact BK385.out⟩, ⟨by (try simp only [hl394001_61]); (try simp only [hl394002_61]); (with_reducible repeat (first | refine blk_drewN ?_ _ | refine blk_drew ?_ | refine blk_alloc ?_ _)); exact BK393.out⟩, ⟨by (try simp only [hl394001_61]); (try simp only [hl394002_61]); (with_reducible repeat (first | refine blk_drewN ?_ _ | refine blk_drew ?_ | refine blk_alloc ?_ _)); exact BK401.out⟩, ⟨by (try simp only [hl394001_61]); (try simp only [hl394002_61]); (with_reducible repeat (first | refine blk_drewN ?_ _ | refine blk_drew ?_ | refine blk_alloc ?_ _)); exact BK432.out⟩, ⟨by repeat (first | (with_reducible first | exact HB.out | apply below_alloc | apply pw_below_drewN | apply below_drew1 | refine below_set ?_ GE369.out | refine below_set ?_ GE385.out | refine below_set ?_ GE393.out | refine below_set ?_ GE401.out | refine below_set ?_ GE432.out) | exact HB.out)⟩⟩
                        · replace c122 := Bool.eq_false_iff.mpr c122
                          subst c122
                          have H1 : (laws_FnExactIncidenceMatrix.j2 kj61 t415 true t394 t395 t396 t416) = some r := by rw [if_neg (show ¬ (false = true) by decide)] at H; exact H
                          clear H
                          have H := H1
                          clear H1
                          have H' := Aside0.mk H
                          clear H
                          have hnb133 := NB432_369.out
                          have hnc133 := NB369_432.out
                          have hnb134 := NB432_385.out
                          have hnc134 := NB385_432.out
                          have hnb135 := NB432_393.out
                          have hnc135 := NB393_432.out
                          have hnb136 := NB432_401.out
                          have hnc136 := NB401_432.out
                          have hcz137_0 : w114.cell? ⟨gb432, 0, none⟩ = some (.int .i64 0) := (blk_cell BK432.out 0).trans rfl
                          have hcz137_1 : w114.cell? ⟨gb432, 1, none⟩ = some (.int .i64 0) := (blk_cell BK432.out 1).trans rfl
                          have hcz137_2 : w114.cell? ⟨gb432, 2, none⟩ = some (.int .i64 0) := (blk_cell BK432.out 2).trans rfl
                          have hcz137_3 : w114.cell? ⟨gb432, 3, none⟩ = some (.slice none 0 0) := (blk_cell BK432.out 3).trans rfl
                          have hfz137_0 := blk_frozen BK432.out 0
                          have hfz137_1 := blk_frozen BK432.out 1
                          have hfz137_2 := blk_frozen BK432.out 2
                          have hfz137_3 := blk_frozen BK432.out 3
                          have hnb138 := NB385_369.out
                          have hnc138 := NB369_385.out
                          have hnb139 := NB385_393.out
                          have hnc139 := NB393_385.out
                          have hnb140 := NB385_401.out
                          have hnc140 := NB401_385.out
                          have hcz141_0 : w114.cell? ⟨gb385, 0, none⟩ = some (.int .i64 t378) := (blk_cell BK385.out 0).trans rfl
                          have hcz141_1 : w114.cell? ⟨gb385, 1, none⟩ = some (.int .i64 t379) := (blk_cell BK385.out 1).trans rfl
                          have hcz141_2 : w114.cell? ⟨gb385, 2, none⟩ = some (.int .i64 t380) := (blk_cell BK385.out 2).trans rfl
                          have hcz141_3 : w114.cell? ⟨gb385, 3, none⟩ = some (.slice Ao23 t381.length co23) := (blk_cell BK385.out 3).trans rfl
                          have hfz141_0 := blk_frozen BK385.out 0
                          have hfz141_1 := blk_frozen BK385.out 1
                          have hfz141_2 := blk_frozen BK385.out 2
                          have hfz141_3 := blk_frozen BK385.out 3
                          go_wp2_with (first | ((with_reducible refine gate_callee (f := 15) rfl ?_); refine goesL_ (some 81) rfl rfl Try.func15 (by kernel_rfl) rfl #[.agg #[.int .i64 t425, .int .i64 t426, .int .i64 t427, .slice Ao120 t428.length co120], .agg #[.int .i64 t378, .int .i64 t379, .int .i64 t380, .slice Ao23 t381.length co23]] rfl (by (try simp only [List.map_toArray, List.map_cons, List.map_nil]); first | done | rfl | (simp only [List.length_drop, List.length_take]; rfl)) ?_; (with_reducible refine (laws_eqMatrix.calls kj61 t425 t426 t427 _ _ t428 t378 t379 t380 _ _ t381 false _ ?side1 ?side2 ?side3 ?side4 A121.out).mono ?_); (case side1 => refine (Kd.R_reads' (e := 3) (base := w.heap.size) (ok := fun k_ => ((((((True ∧ some k_ ≠ (.slice Ao23 t381.length co23 : Value).ownBlock) ∧ some k_ ≠ (.slice Ao30 t412.length co30 : Value).ownBlock) ∧ some k_ ≠ (.slice Ao31 t413.length co31 : Value).ownBlock) ∧ some k_ ≠ (.slice Ao38 t397.length co38 : Value).ownBlock) ∧ some k_ ≠ (.slice Ao111 t419.length co111 : Value).ownBlock) ∧ some k_ ≠ (.slice Ao112 t422.length co112 : Value).ownBlock)) (n := t428.length) (c := co120) ?_).2.2; exact (by (with_reducible repeat (first | apply Kd.R_alloc | apply Kd.R_drewN | apply Kd.R_drew)); exact (Kd.R_mono (Kd.R_far (p := ⟨gb432, 3, none⟩) (Kd.R_far (p := ⟨gb432, 2, none⟩) (Kd.R_far (p := ⟨gb432, 1, none⟩) (Kd.R_far (p := ⟨gb432, 0, none⟩) (Kd.R_types HO430.out BK432.out (by decide)) (fun _ hk => hk.2) (.int .i64 t425)) (fun _ hk => hk.2) (.int .i64 t426)) (fun _ hk => hk.2) (.int .i64 t427)) (fun _ hk => hk.2) (.slice Ao120 t428.length co120)) (fun _ h_ => h_.1)))); (case side2 => exact (Kd.R_reads' HO430.out).2.1); (case side3 => refine (Kd.R_reads' (e := 3) (base := w.heap.size) (ok := fun k_ => ((((some k_ ≠ (.slice Ao30 t412.length co30 : Value).ownBlock ∧ (some k_ ≠ (.slice Ao31 t413.length co31 : Value).ownBlock ∧ some k_ ≠ (.slice Ao38 t397.length co38 : Value).ownBlock)) ∧ some k_ ≠ (.slice Ao111 t419.length co111 : Value).ownBlock) ∧ some k_ ≠ (.slice Ao112 t422.length co112 : Value).ownBlock) ∧ some k_ ≠ (.slice Ao120 t428.length co120 : Value).ownBlock)) (n := t381.length) (c := co23) ?_).2.2; exact (by (with_reducible repeat (first | apply Kd.R_alloc | apply Kd.R_drewN | apply Kd.R_drew)); exact (Kd.R_mono (Kd.R_far (p := ⟨gb432, 3, none⟩) (Kd.R_far (p := ⟨gb432, 2, none⟩) (Kd.R_far (p := ⟨gb432, 1, none⟩) (Kd.R_far (p := ⟨gb432, 0, none⟩) (Kd.R_types HO_386003.out BK432.out (by decide)) (fun _ hk => hk.2) (.int .i64 t425)) (fun _ hk => hk.2) (.int .i64 t426)) (fun _ hk => hk.2) (.int .i64 t427)) (fun _ hk => hk.2) (.slice Ao120 t428.length co120)) (fun _ h_ => h_.1)))); (case side4 => exact (Kd.R_reads' HO_386003.out).2.1); rintro e w142 ⟨rfl, hb⟩; refine ⟨_, rfl, ?_⟩; have n0_ := Aside0.mk (Kd.R_below (by (with_reducible repeat (first | apply Kd.R_alloc | apply Kd.R_drewN | apply Kd.R_drew)); exact (Kd.R_mono (Kd.R_far (p := ⟨gb432, 3, none⟩) (Kd.R_far (p := ⟨gb432, 2, none⟩) (Kd.R_far (p := ⟨gb432, 1, none⟩) (Kd.R_far (p := ⟨gb432, 0, none⟩) (Kd.R_types HO_386003.out BK432.out (by decide)) (fun _ hk => hk.2) (.int .i64 t425)) (fun _ hk => hk.2) (.int .i64 t426)) (fun _ hk => hk.2) (.int .i64 t427)) (fun _ hk => hk.2) (.slice Ao120 t428.length co120)) (fun _ h_ => h_.1))) hb); have n1_ := Aside0.mk (Kd.R_below (by (with_reducible repeat (first | apply Kd.R_alloc | apply Kd.R_drewN | apply Kd.R_drew)); exact (Kd.R_mono (Kd.R_far (p := ⟨gb432, 3, none⟩) (Kd.R_far (p := ⟨gb432, 2, none⟩) (Kd.R_far (p := ⟨gb432, 1, none⟩) (Kd.R_far (p := ⟨gb432, 0, none⟩) (Kd.R_types HO_394001.out BK432.out (by decide)) (fun _ hk => hk.2) (.int .i64 t425)) (fun _ hk => hk.2) (.int .i64 t426)) (fun _ hk => hk.2) (.int .i64 t427)) (fun _ hk => hk.2) (.slice Ao120 t428.length co120)) (fun _ h_ => h_.1))) hb); have n2_ := Aside0.mk (Kd.R_below (by (with_reducible repeat (first | apply Kd.R_alloc | apply Kd.R_drewN | apply Kd.R_drew)); exact (Kd.R_mono (Kd.R_far (p := ⟨gb432, 3, none⟩) (Kd.R_far (p := ⟨gb432, 2, none⟩) (Kd.R_far (p := ⟨gb432, 1, none⟩) (Kd.R_far (p := ⟨gb432, 0, none⟩) (Kd.R_types HO_394002.out BK432.out (by decide)) (fun _ hk => hk.2) (.int .i64 t425)) (fun _ hk => hk.2) (.int .i64 t426)) (fun _ hk => hk.2) (.int .i64 t427)) (fun _ hk => hk.2) (.slice Ao120 t428.length co120)) (fun _ h_ => h_.1))) hb); have n3_ := Aside0.mk (Kd.R_below (by (with_reducible repeat (first | apply Kd.R_alloc | apply Kd.R_drewN | apply Kd.R_drew)); exact (Kd.R_mono (Kd.R_far (p := ⟨gb432, 3, none⟩) (Kd.R_far (p := ⟨gb432, 2, none⟩) (Kd.R_far (p := ⟨gb432, 1, none⟩) (Kd.R_far (p := ⟨gb432, 0, none⟩) (Kd.R_types HO_402003.out BK432.out (by decide)) (fun _ hk => hk.2) (.int .i64 t425)) (fun _ hk => hk.2) (.int .i64 t426)) (fun _ hk => hk.2) (.int .i64 t427)) (fun _ hk => hk.2) (.slice Ao120 t428.length co120)) (fun _ h_ => h_.1))) hb); have n4_ := Aside0.mk (Kd.R_below (by (with_reducible repeat (first | apply Kd.R_alloc | apply Kd.R_drewN | apply Kd.R_drew)); exact (Kd.R_mono (Kd.R_far (p := ⟨gb432, 3, none⟩) (Kd.R_far (p := ⟨gb432, 2, none⟩) (Kd.R_far (p := ⟨gb432, 1, none⟩) (Kd.R_far (p := ⟨gb432, 0, none⟩) (Kd.R_types HO421.out BK432.out (by decide)) (fun _ hk => hk.2) (.int .i64 t425)) (fun _ hk => hk.2) (.int .i64 t426)) (fun _ hk => hk.2) (.int .i64 t427)) (fun _ hk => hk.2) (.slice Ao120 t428.length co120)) (fun _ h_ => h_.1))) hb); have n5_ := Aside0.mk (Kd.R_below (by (with_reducible repeat (first | apply Kd.R_alloc | apply Kd.R_drewN | apply Kd.R_drew)); exact (Kd.R_mono (Kd.R_far (p := ⟨gb432, 3, none⟩) (Kd.R_far (p := ⟨gb432, 2, none⟩) (Kd.R_far (p := ⟨gb432, 1, none⟩) (Kd.R_far (p := ⟨gb432, 0, none⟩) (Kd.R_types HO424.out BK432.out (by decide)) (fun _ hk => hk.2) (.int .i64 t425)) (fun _ hk => hk.2) (.int .i64 t426)) (fun _ hk => hk.2) (.int .i64 t427)) (fun _ hk => hk.2) (.slice Ao120 t428.length co120)) (fun _ h_ => h_.1))) hb); have n6_ := Aside0.mk (Kd.R_below (by (with_reducible repeat (first | apply Kd.R_alloc | apply Kd.R_drewN | apply Kd.R_drew)); exact (Kd.R_mono (Kd.R_far (p := ⟨gb432, 3, none⟩) (Kd.R_far (p := ⟨gb432, 2, none⟩) (Kd.R_far (p := ⟨gb432, 1, none⟩) (Kd.R_far (p := ⟨gb432, 0, none⟩) (Kd.R_types HO430.out BK432.out (by decide)) (fun _ hk => hk.2) (.int .i64 t425)) (fun _ hk => hk.2) (.int .i64 t426)) (fun _ hk => hk.2) (.int .i64 t427)) (fun _ hk => hk.2) (.slice Ao120 t428.length co120)) (fun _ h_ => h_.1))) hb); have n7_ := Aside0.mk (blk_below (g := gb369) (o := .cells #[.int .i64 a0_0, .slice A0_1 l0_1.length c0_1, .slice A0_2 l0_2.length c0_2] 31 (0, 0)) (by (with_reducible repeat (first | refine blk_drewN ?_ _ | refine blk_drew ?_ | refine blk_alloc ?_ _)); refine blk_far ?_ NB369_432.out _; (with_reducible repeat (first | refine blk_drewN ?_ _ | refine blk_drew ?_ | refine blk_alloc ?_ _)); refine blk_far ?_ NB369_432.out _; (with_reducible repeat (first | refine blk_drewN ?_ _ | refine blk_drew ?_ | refine blk_alloc ?_ _)); refine blk_far ?_ NB369_432.out _; (with_reducible repeat (first | refine blk_drewN ?_ _ | refine blk_drew ?_ | refine blk_alloc ?_ _)); refine blk_far ?_ NB369_432.out _; (with_reducible repeat (first | refine blk_drewN ?_ _ | refine blk_drew ?_ | refine blk_alloc ?_ _)); exact BK369.out) hb); have n8_ := Aside0.mk (blk_below (g := gb385) (o := .cells #[.int .i64 t378, .int .i64 t379, .int .i64 t380, .slice Ao23 t381.length co23] 27 (0, 0)) (by (with_reducible repeat (first | refine blk_drewN ?_ _ | refine blk_drew ?_ | refine blk_alloc ?_ _)); refine blk_far ?_ NB385_432.out _; (with_reducible repeat (first | refine blk_drewN ?_ _ | refine blk_drew ?_ | refine blk_alloc ?_ _)); refine blk_far ?_ NB385_432.out _; (with_reducible repeat (first | refine blk_drewN ?_ _ | refine blk_drew ?_ | refine blk_alloc ?_ _)); refine blk_far ?_ NB385_432.out _; (with_reducible repeat (first | refine blk_drewN ?_ _ | refine blk_drew ?_ | refine blk_alloc ?_ _)); refine blk_far ?_ NB385_432.out _; (with_reducible repeat (first | refine blk_drewN ?_ _ | refine blk_drew ?_ | refine blk_alloc ?_ _)); exact BK385.out) hb); have n9_ := Aside0.mk (blk_below (g := gb393) (o := .cells #[.int .i64 t386, .slice Ao30 t412.length co30, .slice Ao31 t413.length co31] 34 (0, 0)) (by (with_reducible repeat (first | refine blk_drewN ?_ _ | refine blk_drew ?_ | refine blk_alloc ?_ _)); refine blk_far ?_ NB393_432.out _; (with_reducible repeat (first | refine blk_drewN ?_ _ | refine blk_drew ?_ | refine blk_alloc ?_ _)); refine blk_far ?_ NB393_432.out _; (with_reducible repeat (first | refine blk_drewN ?_ _ | refine blk_drew ?_ | refine blk_alloc ?_ _)); refine blk_far ?_ NB393_432.out _; (with_reducible repeat (first | refine blk_drewN ?_ _ | refine blk_drew ?_ | refine blk_alloc ?_ _)); refine blk_far ?_ NB393_432.out _; (with_reducible repeat (first | refine blk_drewN ?_ _ | refine blk_drew ?_ | refine blk_alloc ?_ _)); exact BK393.out) hb); have n10_ := Aside0.mk (blk_below (g := gb401) (o := .cells #[.int .i64 t394, .int .i64 t395, .int .i64 t396, .slice Ao38 t397.length co38] 27 (0, 0)) (by (with_reducible repeat (first | refine blk_drewN ?_ _ | refine blk_drew ?_ | refine blk_alloc ?_ _)); refine blk_far ?_ NB401_432.out _; (with_reducible repeat (first | refine blk_drewN ?_ _ | refine blk_drew ?_ | refine blk_alloc ?_ _)); refine blk_far ?_ NB401_432.out _; (with_reducible repeat (first | refine blk_drewN ?_ _ | refine blk_drew ?_ | refine blk_alloc ?_ _)); refine blk_far ?_ NB401_432.out _; (with_reducible repeat (first | refine blk_drewN ?_ _ | refine blk_drew ?_ | refine blk_alloc ?_ _)); refine blk_far ?_ NB401_432.out _; (with_reducible repeat (first | refine blk_drewN ?_ _ | refine blk_drew ?_ | refine blk_alloc ?_ _)); exact BK401.out) hb); have n11_ := Aside0.mk (blk_below (g := gb432) (o := .cells #[.int .i64 t425, .int .i64 t426, .int .i64 t427, .slice Ao120 t428.length co120] 27 (0, 0)) (by (with_reducible repeat (first | refine blk_drewN ?_ _ | refine blk_drew ?_ | refine blk_alloc ?_ _)); refine blk_put (cs := #[.int .i64 t425, .int .i64 t426, .int .i64 t427, .slice none 0 0]) ?_ 3 _ rfl; (with_reducible repeat (first | refine blk_drewN ?_ _ | refine blk_drew ?_ | refine blk_alloc ?_ _)); refine blk_put (cs := #[.int .i64 t425, .int .i64 t426, .int .i64 0, .slice none 0 0]) ?_ 2 _ rfl; (with_reducible repeat (first | refine blk_drewN ?_ _ | refine blk_drew ?_ | refine blk_alloc ?_ _)); refine blk_put (cs := #[.int .i64 t425, .int .i64 0, .int .i64 0, .slice none 0 0]) ?_ 1 _ rfl; (with_reducible repeat (first | refine blk_drewN ?_ _ | refine blk_drew ?_ | refine blk_alloc ?_ _)); refine blk_put (cs := #[.int .i64 0, .int .i64 0, .int .i64 0, .slice none 0 0]) ?_ 0 _ rfl; (with_reducible repeat (first | refine blk_drewN ?_ _ | refine blk_drew ?_ | refine blk_alloc ?_ _)); exact BK432.out) hb); have n12_ := Aside0.mk (below_step (by repeat (first | (with_reducible first | exact HB.out | apply below_alloc | apply pw_below_drewN | apply below_drew1 | refine below_set ?_ GE369.out | refine below_set ?_ GE385.out | refine below_set ?_ GE393.out | refine below_set ?_ GE401.out | refine below_set ?_ GE432.out) | exact HB.out)) hb); clear HO_386003; clear HO_394001; clear HO_394002; clear HO_402003; clear HO421; clear HO424; clear HO430; clear BK369; clear BK385; clear BK393; clear BK401; clear BK432; clear HB; have HO_386003 := n0_; have HO_394001 := n1_; have HO_394002 := n2_; have HO_402003 := n3_; have HO421 := n4_; have HO424 := n5_; have HO430 := n6_; have BK369 := n7_; have BK385 := n8_; have BK393 := n9_; have BK401 := n10_; have BK432 := n11_; have HB := n12_; clear n0_ n1_ n2_ n3_ n4_ n5_ n6_ n7_ n8_ n9_ n10_ n11_ n12_; (try clear hb); (try clear hb2); (try clear hk); (try clear hi)))
                          go_meet
                          case rel => exact ⟨_, (true), (by first | rfl | (simp; done) | (simp [*]; done)), H', ⟨by have := HJ10.out; have := HJ61.out; first | omega | exact Nat.le_refl _⟩, ⟨by (try simp only [hl394001_61]); (try simp only [hl394002_61]); (with_reducible repeat (first | apply Kd.R_alloc | apply Kd.R_drewN | apply Kd.R_drew)); exact Kd.R_mono HO_386003.out (fun _ hk => ⟨hk.1.1.1.1, ⟨hk.1.1.1.2.1, ⟨hk.1.1.1.2.2, hk.2⟩⟩⟩)⟩, ⟨by (try simp only [hl394001_61]); (try simp only [hl394002_61]); (with_reducible repeat (first | apply Kd.R_alloc | apply Kd.R_drewN | apply Kd.R_drew)); exact Kd.R_mono HO_394001.out (fun _ hk => ⟨hk.1.1.1.1, ⟨hk.1.1.1.2.1, ⟨hk.1.1.1.2.2, hk.2⟩⟩⟩)⟩, ⟨by (try simp only [hl394001_61]); (try simp only [hl394002_61]); (with_reducible repeat (first | apply Kd.R_alloc | apply Kd.R_drewN | apply Kd.R_drew)); exact Kd.R_mono HO_394002.out (fun _ hk => ⟨hk.1.1.1.1, ⟨hk.1.1.1.2.1, ⟨hk.1.1.1.2.2, hk.2⟩⟩⟩)⟩, ⟨by (try simp only [hl394001_61]); (try simp only [hl394002_61]); (with_reducible repeat (first | apply Kd.R_alloc | apply Kd.R_drewN | apply Kd.R_drew)); exact Kd.R_mono HO_402003.out (fun _ hk => ⟨hk.1.1.1.1, ⟨hk.1.1.1.2.1, ⟨hk.1.1.1.2.2, hk.2⟩⟩⟩)⟩, ⟨by (try simp only [hl394001_61]); (try simp only [hl394002_61]); (with_reducible repeat (first | apply Kd.R_alloc | apply Kd.R_drewN | apply Kd.R_drew)); exact Kd.R_mono HO430.out (fun _ hk => ⟨hk.1.1.1.1.1.2, ⟨hk.1.1.1.1.2, ⟨hk.1.1.1.2, hk.1.1.2⟩⟩⟩)⟩, ⟨by (try simp only [hl394001_61]); (try simp only [hl394002_61]); (with_reducible repeat (first | refine blk_drewN ?_ _ | refine blk_drew ?_ | refine blk_alloc ?_ _)); exact BK369.out⟩, ⟨by (try simp only [hl394001_61]); (try simp only [hl394002_61]); (with_reducible repeat (first | refine blk_drewN ?_ _ | refine blk_drew ?_ | refine blk_alloc ?_ _)); exact BK385.out⟩, ⟨by (try simp only [hl394001_61]); (try simp only [hl394002_61]); (with_reducible repeat (first | refine blk_drewN ?_ _ | refine blk_drew ?_ | refine blk_alloc ?_ _)); exact BK393.out⟩, ⟨by (try simp only [hl394001_61]); (try simp only [hl394002_61]); (with_reducible repeat (first | refine blk_drewN ?_ _ | refine blk_drew ?_ | refine blk_alloc ?_ _)); exact BK401.out⟩, ⟨by (try simp only [hl394001_61]); (try simp only [hl394002_61]); (with_reducible repeat (first | refine blk_drewN ?_ _ | refine blk_drew ?_ | refine blk_alloc ?_ _)); exact BK432.out⟩, ⟨by repeat (first | (with_reducible first | exact HB.out | apply below_alloc | apply pw_below_drewN | apply below_drew1 | refine below_set ?_ GE369.out | refine below_set ?_ GE385.out | refine below_set ?_ GE393.out | refine below_set ?_ GE401.out | refine below_set ?_ GE432.out) | exact HB.out)⟩⟩
                      case rest =>
                        clear HC99
                        try clear c1
                        try clear c2
                        try clear p2
                        try clear c3
                        try clear c3b0
                        try clear c4
                        try clear c5
                        try clear c6
                        try clear c7
                        try clear c8
                        try clear c9
                        try clear c10
                        try clear c11
                        try clear c12
                        try clear c13
                        try clear c14
                        try clear c15
                        try clear c16
                        try clear c18
                        try clear c20
                        try clear c21
                        try clear c23
                        try clear c24
                        try clear c25
                        try clear c26
                        try clear c27
                        try clear c28
                        try clear c34
                        try clear c35
                        try clear c36
                        try clear c40
                        try clear c41
                        try clear c42
                        try clear c43
                        try clear c45
                        try clear c46
                        try clear c49
                        try clear c50
                        try clear c51
                        try clear c53
                        try clear c54
                        try clear c57
                        try clear c60
                        try clear c68
                        try clear c69
                        try clear c70
                        try clear c73
                        try clear c73b0
                        try clear c75
                        try clear c76
                        try clear c77
                        try clear c78
                        try clear c80
                        try clear c81
                        try clear c84
                        try clear c85
                        try clear c86
                        try clear c88
                        try clear c89
                        try clear c92
                        try clear c95
                        try clear c95b0
                        try clear c96
                        try clear c96b0
                        try clear c96b1
                        try clear c100
                        try clear c101
                        try clear c102
                        try clear c107
                        try clear c108
                        try clear c115
                        try clear c116
                        try clear c117
                        try clear c118
                        try clear c122
                        try clear c123
                        try clear c124
                        try clear c125
                        try clear c126
                        try clear c128
                        try clear c129
                        try clear c130
                        try clear c133
                        try clear c134
                        try clear c135
                        try clear c136
                        try clear c138
                        try clear c139
                        try clear c140
                        try clear hcz103_0
                        try clear hcz103_1
                        try clear hcz103_2
                        try clear hcz103_3
                        try clear hcz105_0
                        try clear hcz105_1
                        try clear hcz105_2
                        try clear hcz105_3
                        try clear hcz109_0
                        try clear hcz109_1
                        try clear hcz109_2
                        try clear hcz119_0
                        try clear hcz119_1
                        try clear hcz119_2
                        try clear hcz119_3
                        try clear hcz127_0
                        try clear hcz127_1
                        try clear hcz127_2
                        try clear hcz127_3
                        try clear hcz131_0
                        try clear hcz131_1
                        try clear hcz131_2
                        try clear hcz131_3
                        try clear hcz137_0
                        try clear hcz137_1
                        try clear hcz137_2
                        try clear hcz137_3
                        try clear hcz13_0
                        try clear hcz13_1
                        try clear hcz13_2
                        try clear hcz141_0
                        try clear hcz141_1
                        try clear hcz141_2
                        try clear hcz141_3
                        try clear hcz15_0
                        try clear hcz15_1
                        try clear hcz15_2
                        try clear hcz22_0
                        try clear hcz22_1
                        try clear hcz22_2
                        try clear hcz22_3
                        try clear hcz24_0
                        try clear hcz24_1
                        try clear hcz24_2
                        try clear hcz29_0
                        try clear hcz29_1
                        try clear hcz29_2
                        try clear hcz37_0
                        try clear hcz37_1
                        try clear hcz37_2
                        try clear hcz37_3
                        try clear hcz44_0
                        try clear hcz44_1
                        try clear hcz44_2
                        try clear hcz44_3
                        try clear hcz47_0
                        try clear hcz47_1
                        try clear hcz47_2
                        try clear hcz47_3
                        try clear hcz52_0
                        try clear hcz52_1
                        try clear hcz52_2
                        try clear hcz52_3
                        try clear hcz55_0
                        try clear hcz55_1
                        try clear hcz55_2
                        try clear hcz55_3
                        try clear hcz5_0
                        try clear hcz5_1
                        try clear hcz5_2
                        try clear hcz71_0
                        try clear hcz71_1
                        try clear hcz71_2
                        try clear hcz79_0
                        try clear hcz79_1
                        try clear hcz79_2
                        try clear hcz79_3
                        try clear hcz82_0
                        try clear hcz82_1
                        try clear hcz82_2
                        try clear hcz82_3
                        try clear hcz87_0
                        try clear hcz87_1
                        try clear hcz87_2
                        try clear hcz87_3
                        try clear hcz90_0
                        try clear hcz90_1
                        try clear hcz90_2
                        try clear hcz90_3
                        try clear hfz103_0
                        try clear hfz103_1
                        try clear hfz103_2
                        try clear hfz103_3
                        try clear hfz105_0
                        try clear hfz105_1
                        try clear hfz105_2
                        try clear hfz105_3
                        try clear hfz109_0
                        try clear hfz109_1
                        try clear hfz109_2
                        try clear hfz119_0
                        try clear hfz119_1
                        try clear hfz119_2
                        try clear hfz119_3
                        try clear hfz127_0
                        try clear hfz127_1
                        try clear hfz127_2
                        try clear hfz127_3
                        try clear hfz131_0
                        try clear hfz131_1
                        try clear hfz131_2
                        try clear hfz131_3
                        try clear hfz137_0
                        try clear hfz137_1
                        try clear hfz137_2
                        try clear hfz137_3
                        try clear hfz13_0
                        try clear hfz13_1
                        try clear hfz13_2
                        try clear hfz141_0
                        try clear hfz141_1
                        try clear hfz141_2
                        try clear hfz141_3
                        try clear hfz15_0
                        try clear hfz15_1
                        try clear hfz15_2
                        try clear hfz22_0
                        try clear hfz22_1
                        try clear hfz22_2
                        try clear hfz22_3
                        try clear hfz24_0
                        try clear hfz24_1
                        try clear hfz24_2
                        try clear hfz29_0
                        try clear hfz29_1
                        try clear hfz29_2
                        try clear hfz37_0
                        try clear hfz37_1
                        try clear hfz37_2
                        try clear hfz37_3
                        try clear hfz44_0
                        try clear hfz44_1
                        try clear hfz44_2
                        try clear hfz44_3
                        try clear hfz47_0
                        try clear hfz47_1
                        try clear hfz47_2
                        try clear hfz47_3
                        try clear hfz52_0
                        try clear hfz52_1
                        try clear hfz52_2
                        try clear hfz52_3
                        try clear hfz55_0
                        try clear hfz55_1
                        try clear hfz55_2
                        try clear hfz55_3
                        try clear hfz5_0
                        try clear hfz5_1
                        try clear hfz5_2
                        try clear hfz71_0
                        try clear hfz71_1
                        try clear hfz71_2
                        try clear hfz79_0
                        try clear hfz79_1
                        try clear hfz79_2
                        try clear hfz79_3
                        try clear hfz82_0
                        try clear hfz82_1
                        try clear hfz82_2
                        try clear hfz82_3
                        try clear hfz87_0
                        try clear hfz87_1
                        try clear hfz87_2
                        try clear hfz87_3
                        try clear hfz90_0
                        try clear hfz90_1
                        try clear hfz90_2
                        try clear hfz90_3
                        try clear p2
                        obtain ⟨kq, x87_98, rfl, HA, HJ98, HO_386003, HO_394001, HO_394002, HO_402003, HO_433003, BK369, BK385, BK393, BK401, BK432, HB⟩ := hcut
                        have hl402003_98 := (Kd.R_reads' HO_402003.out).1
                        rw [hl402003_98] at HO_402003
                        (try simp only [hl402003_98])
                        (try simp only [hl402003_98] at BK369)
                        (try simp only [hl402003_98] at BK385)
                        (try simp only [hl402003_98] at BK393)
                        (try simp only [hl402003_98] at BK401)
                        (try simp only [hl402003_98] at BK432)
                        (try simp only [hl402003_98] at HO_386003)
                        (try simp only [hl402003_98] at HO_394001)
                        (try simp only [hl402003_98] at HO_394002)
                        (try simp only [hl402003_98] at HO_433003)
                        cases kq with
                        | zero => exact absurd HA.out (by simp [laws_FnExactIncidenceMatrix.j2])
                        | succ kj98 =>
                          have H := HA.out
                          clear HA
                          simp only [laws_FnExactIncidenceMatrix.j2] at H
                          by_cases c143 : x87_98 = true
                          · subst c143
                            have H1 : (none) = some r := by rw [if_pos rfl] at H; exact H
                            clear H
                            have H := H1
                            clear H1
                            exact absurd H (by simp)
                          · replace c143 := Bool.eq_false_iff.mpr c143
                            subst c143
                            have H1 : ((laws_heldMatrix.f kj98 t394 t395 t396 t416 1).bind fun t434 => (if t434 < 0 then (none) else (if t434 = t415 then (some true) else (none)))) = some r := by rw [if_neg (show ¬ (false = true) by decide)] at H; exact H
                            clear H
                            have H := H1
                            clear H1
                            replace H := Option.bind_eq_some_iff.mp H
                            obtain ⟨t434, A1440, H⟩ := H
                            replace H : (if t434 < 0 then (none) else (if t434 = t415 then (some true) else (none))) = some r := H
                            have A144 := Aside0.mk A1440
                            clear A1440
                            by_cases c145 : t434 < 0
                            · rw [if_pos c145] at H
                              exact absurd H (by simp)
                            · rw [if_neg c145] at H
                              have c145b0 : decide (t434 < 0) = false := decide_eq_false c145
                              clear c145
                              by_cases c146 : t434 = t415
                              · rw [if_pos c146] at H
                                have c146b0 : (t434 == t415) = true := beq_iff_eq.mpr c146
                                have c146b1 : (t434 != t415) = false := bne_eq_false_iff_eq.mpr c146
                                clear c146
                                obtain rfl := Option.some.inj H
                                have hnb147 := NB401_369.out
                                have hnc147 := NB369_401.out
                                have hnb148 := NB401_385.out
                                have hnc148 := NB385_401.out
                                have hnb149 := NB401_393.out
                                have hnc149 := NB393_401.out
                                have hnb150 := NB401_432.out
                                have hnc150 := NB432_401.out
                                have hcz151_0 : wc.cell? ⟨gb401, 0, none⟩ = some (.int .i64 t394) := (blk_cell BK401.out 0).trans rfl
                                have hcz151_1 : wc.cell? ⟨gb401, 1, none⟩ = some (.int .i64 t395) := (blk_cell BK401.out 1).trans rfl
                                have hcz151_2 : wc.cell? ⟨gb401, 2, none⟩ = some (.int .i64 t396) := (blk_cell BK401.out 2).trans rfl
                                have hcz151_3 : wc.cell? ⟨gb401, 3, none⟩ = some (.slice Ao38 t416.length co38) := (blk_cell BK401.out 3).trans rfl
                                have hfz151_0 := blk_frozen BK401.out 0
                                have hfz151_1 := blk_frozen BK401.out 1
                                have hfz151_2 := blk_frozen BK401.out 2
                                have hfz151_3 := blk_frozen BK401.out 3
                                go_wp2_with (first | ((with_reducible refine gate_callee (f := 27) rfl ?_); refine goesL_ (some 90) rfl rfl Try.func27 (by kernel_rfl) rfl #[.agg #[.int .i64 t394, .int .i64 t395, .int .i64 t396, .slice Ao38 t416.length co38], .int .i64 1] rfl (by (try simp only [List.map_toArray, List.map_cons, List.map_nil]); first | done | rfl | (simp only [List.length_drop, List.length_take]; rfl)) ?_; (with_reducible refine (laws_heldMatrix.calls kj98 t394 t395 t396 _ _ t416 1 t434 _ ?side1 ?side2 A144.out).mono ?_); (case side1 => repeat (first | exact (Kd.R_reads' HO_402003.out).2.2 | (with_reducible refine Kd.C_alloc ?_ _) | (with_reducible refine Kd.C_drewN ?_ _) | (with_reducible refine Kd.C_drew ?_))); (case side2 => exact (Kd.R_reads' HO_402003.out).2.1); rintro e w152 ⟨rfl, hb⟩; refine ⟨_, rfl, ?_⟩; have n0_ := Aside0.mk (Kd.R_below (by (with_reducible repeat (first | apply Kd.R_alloc | apply Kd.R_drewN | apply Kd.R_drew)); exact HO_386003.out) hb); have n1_ := Aside0.mk (Kd.R_below (by (with_reducible repeat (first | apply Kd.R_alloc | apply Kd.R_drewN | apply Kd.R_drew)); exact HO_394001.out) hb); have n2_ := Aside0.mk (Kd.R_below (by (with_reducible repeat (first | apply Kd.R_alloc | apply Kd.R_drewN | apply Kd.R_drew)); exact HO_394002.out) hb); have n3_ := Aside0.mk (Kd.R_below (by (with_reducible repeat (first | apply Kd.R_alloc | apply Kd.R_drewN | apply Kd.R_drew)); exact HO_402003.out) hb); have n4_ := Aside0.mk (Kd.R_below (by (with_reducible repeat (first | apply Kd.R_alloc | apply Kd.R_drewN | apply Kd.R_drew)); exact HO_433003.out) hb); have n5_ := Aside0.mk (blk_below (g := gb369) (o := .cells #[.int .i64 a0_0, .slice A0_1 l0_1.length c0_1, .slice A0_2 l0_2.length c0_2] 31 (0, 0)) (by (with_reducible repeat (first | refine blk_drewN ?_ _ | refine blk_drew ?_ | refine blk_alloc ?_ _)); exact BK369.out) hb); have n6_ := Aside0.mk (blk_below (g := gb385) (o := .cells #[.int .i64 t378, .int .i64 t379, .int .i64 t380, .slice Ao23 t381.length co23] 27 (0, 0)) (by (with_reducible repeat (first | refine blk_drewN ?_ _ | refine blk_drew ?_ | refine blk_alloc ?_ _)); exact BK385.out) hb); have n7_ := Aside0.mk (blk_below (g := gb393) (o := .cells #[.int .i64 t386, .slice Ao30 t412.length co30, .slice Ao31 t413.length co31] 34 (0, 0)) (by (with_reducible repeat (first | refine blk_drewN ?_ _ | refine blk_drew ?_ | refine blk_alloc ?_ _)); exact BK393.out) hb); have n8_ := Aside0.mk (blk_below (g := gb401) (o := .cells #[.int .i64 t394, .int .i64 t395, .int .i64 t396, .slice Ao38 t416.length co38] 27 (0, 0)) (by (with_reducible repeat (first | refine blk_drewN ?_ _ | refine blk_drew ?_ | refine blk_alloc ?_ _)); exact BK401.out) hb); have n9_ := Aside0.mk (blk_below (g := gb432) (o := .cells #[.int .i64 t425, .int .i64 t426, .int .i64 t427, .slice Ao120 t428.length co120] 27 (0, 0)) (by (with_reducible repeat (first | refine blk_drewN ?_ _ | refine blk_drew ?_ | refine blk_alloc ?_ _)); exact BK432.out) hb); have n10_ := Aside0.mk (below_step (by repeat (first | (with_reducible first | exact HB.out | apply below_alloc | apply pw_below_drewN | apply below_drew1 | refine below_set ?_ GE369.out | refine below_set ?_ GE385.out | refine below_set ?_ GE393.out | refine below_set ?_ GE401.out | refine below_set ?_ GE432.out) | exact HB.out)) hb); clear HO_386003; clear HO_394001; clear HO_394002; clear HO_402003; clear HO_433003; clear BK369; clear BK385; clear BK393; clear BK401; clear BK432; clear HB; have HO_386003 := n0_; have HO_394001 := n1_; have HO_394002 := n2_; have HO_402003 := n3_; have HO_433003 := n4_; have BK369 := n5_; have BK385 := n6_; have BK393 := n7_; have BK401 := n8_; have BK432 := n9_; have HB := n10_; clear n0_ n1_ n2_ n3_ n4_ n5_ n6_ n7_ n8_ n9_ n10_; (try clear hb); (try clear hb2); (try clear hk); (try clear hi)))
                                go_ret
                                exact ⟨by first | rfl | (simp [errW_none, errW_some] <;> rfl) | (simp [*, errW_none, errW_some] <;> rfl), by repeat (first | (with_reducible first | exact HB.out | apply below_alloc | apply pw_below_drewN | apply below_drew1 | refine below_set ?_ GE369.out | refine below_set ?_ GE385.out | refine below_set ?_ GE393.out | refine below_set ?_ GE401.out | refine below_set ?_ GE432.out) | exact HB.out)⟩
                              · rw [if_neg c146] at H
                                exact absurd H (by simp)
                    · rw [if_neg c96] at H
                      exact absurd H (by simp)
          · replace c60 := Bool.eq_false_iff.mpr c60
            subst c60
            have H1 : (none) = some r := by rw [if_neg (show ¬ (false = true) by decide)] at H; exact H
            clear H
            have H := H1
            clear H1
            exact absurd H (by simp)

end Go.Proofs.Ytopkfhnnapncgaa.F
