/- Several texts of this session in one: Fx3, Fx7, GvBox, GvCount, GvColourings, Fx11, Base, Bits, Loops, LCount. Conditions: as each theorem says. -/
import Derived.Test.YtopkfhnnapncgaaZColourings0
import Derived.Laws.EntriesVeiled
import Derived.Shelf.Abstract
import Derived.Laws.BitsLemmas
section
namespace Go.Proofs.Ytopkfhnnapncgaa.F
open Go.RowKit Go.Proofs.YtopkfhnnapncgaaW.PrintWords Go.Proofs.YtopkfhnnapncgaaW.PrintLast Go.Proofs.YtopkfhnnapncgaaW.PrintMore
attribute [local go_sem] max2_int min2_int max_two min_two max_three min_three max_four min_four   -- for this text's walks alone
set_option linter.unusedVariables false
set_option linter.unusedSimpArgs false

def laws_szGraph.f (a0_0 : Int) (l0_1 : List Int) (l0_2 : List Int) (a1 : Int) : Option (Int) := (laws_szIntS.f l0_1 a1).bind fun t102 => (if t102 < 0 then (some (-1)) else ((laws_szIntS.f l0_2 t102).bind fun t103 => (if t103 < 0 then (some (-1)) else (some t103))))
set_option maxHeartbeats 8000000 in
set_option maxRecDepth 100000 in
theorem laws_szGraph.calls (a0_0 : Int) (A0_1 : Option Addr) (c0_1 : Nat) (l0_1 : List Int) (A0_2 : Option Addr) (c0_2 : Nat) (l0_2 : List Int) (a1 : Int) (r : Int) (w : World) (hr0_1 : Kd.C (Kd.int .i64) w A0_1 l0_1.length l0_1) (hc0_1 : l0_1.length ≤ c0_1) (hr0_2 : Kd.C (Kd.int .i64) w A0_2 l0_2.length l0_2) (hc0_2 : l0_2.length ≤ c0_2) (h : laws_szGraph.f a0_0 l0_1 l0_2 a1 = some r) :
    Calls Try.prog 16 #[.agg #[.int .i64 a0_0, .slice A0_1 l0_1.length c0_1, .slice A0_2 l0_2.length c0_2], .int .i64 a1] w fun e w' => e = .returned (.int .i64 r) ∧ Below w.heap.size w w' := by
  have hu31 := Try.underlying31
  have HR0_1 := Aside0.mk hr0_1
  have HC0_1 := Aside0.mk hc0_1
  clear hr0_1 hc0_1
  have HR0_2 := Aside0.mk hr0_2
  have HC0_2 := Aside0.mk hc0_2
  clear hr0_2 hc0_2
  have HB := Aside0.mk (Below.refl w.heap.size w)
  have H : ((laws_szIntS.f l0_1 a1).bind fun t102 => (if t102 < 0 then (some (-1)) else ((laws_szIntS.f l0_2 t102).bind fun t103 => (if t103 < 0 then (some (-1)) else (some t103))))) = some r := h
  clear h
  replace H := Option.bind_eq_some_iff.mp H
  obtain ⟨t102, A30, H⟩ := H
  replace H : (if t102 < 0 then (some (-1)) else ((laws_szIntS.f l0_2 t102).bind fun t103 => (if t103 < 0 then (some (-1)) else (some t103)))) = some r := H
  have A3 := Aside0.mk A30
  clear A30
  by_cases c4 : t102 < 0
  · rw [if_pos c4] at H
    have c4b0 : decide (t102 < 0) = true := decide_eq_true c4
    clear c4
    obtain rfl := Option.some.inj H
    go_enter Try.func16, Try.ntmps16
    go_wp2_with (first | ((with_reducible refine gate_dst (N := 2) rfl ?_); refine box_event ?hg (N := 2) ?hd (cs := #[.int .i64 a0_0, .slice A0_1 l0_1.length c0_1, .slice A0_2 l0_2.length c0_2]) (t := 31) ?hr ?_; (case hd => rfl); (case hg => rfl); (case hr => exact sqG); intro gb101 hg w5 hbox hb; have n0_ := Aside0.mk (below_step sqB hb); have n1_ := Aside0.mk (hbox); have n2_ := Aside0.mk ((sqS hg : w.heap.size ≤ gb101)); have n3_ := Aside0.mk ((sqS hg : w.heap.size ≤ gb101)); clear HB; have HB := n0_; have BK101 := n1_; have GW101 := n2_; have GE101 := n3_; clear n0_ n1_ n2_ n3_; clear hb hbox hg; have hcz6_0 : w5.cell? ⟨gb101, 0, none⟩ = some (.int .i64 a0_0) := (blk_cell BK101.out 0).trans rfl; have hcz6_1 : w5.cell? ⟨gb101, 1, none⟩ = some (.slice A0_1 l0_1.length c0_1) := (blk_cell BK101.out 1).trans rfl; have hcz6_2 : w5.cell? ⟨gb101, 2, none⟩ = some (.slice A0_2 l0_2.length c0_2) := (blk_cell BK101.out 2).trans rfl; have hfz6_0 := blk_frozen BK101.out 0; have hfz6_1 := blk_frozen BK101.out 1; have hfz6_2 := blk_frozen BK101.out 2) | ((with_reducible refine gate_callee (f := 36) rfl ?_); refine goesL_ (some 8) rfl rfl Try.func36 (by kernel_rfl) rfl #[.slice A0_1 l0_1.length c0_1, .int .i64 a1] rfl sqM ?_; (with_reducible refine (laws_szIntS.calls _ _ l0_1 a1 t102 _ ?side1 ?side2 A3.out).mono ?_); (case side1 => exact sqC (Kd.C_below HR0_1.out HB.out)); (case side2 => exact HC0_1.out); rintro e w' ⟨rfl, ⟨nd, rfl⟩⟩; refine ⟨_, rfl, ?_⟩))
    go_ret
    exact ⟨sqE, sqB⟩
  · rw [if_neg c4] at H
    have c4b0 : decide (t102 < 0) = false := decide_eq_false c4
    clear c4
    replace H := Option.bind_eq_some_iff.mp H
    obtain ⟨t103, A70, H⟩ := H
    replace H : (if t103 < 0 then (some (-1)) else (some t103)) = some r := H
    have A7 := Aside0.mk A70
    clear A70
    by_cases c8 : t103 < 0
    · rw [if_pos c8] at H
      have c8b0 : decide (t103 < 0) = true := decide_eq_true c8
      clear c8
      obtain rfl := Option.some.inj H
      go_enter Try.func16, Try.ntmps16
      go_wp2_with (first | ((with_reducible refine gate_dst (N := 2) rfl ?_); refine box_event ?hg (N := 2) ?hd (cs := #[.int .i64 a0_0, .slice A0_1 l0_1.length c0_1, .slice A0_2 l0_2.length c0_2]) (t := 31) ?hr ?_; (case hd => rfl); (case hg => rfl); (case hr => exact sqG); intro gb101 hg w9 hbox hb; have n0_ := Aside0.mk (below_step sqB hb); have n1_ := Aside0.mk (hbox); have n2_ := Aside0.mk ((sqS hg : w.heap.size ≤ gb101)); have n3_ := Aside0.mk ((sqS hg : w.heap.size ≤ gb101)); clear HB; have HB := n0_; have BK101 := n1_; have GW101 := n2_; have GE101 := n3_; clear n0_ n1_ n2_ n3_; clear hb hbox hg; have hcz10_0 : w9.cell? ⟨gb101, 0, none⟩ = some (.int .i64 a0_0) := (blk_cell BK101.out 0).trans rfl; have hcz10_1 : w9.cell? ⟨gb101, 1, none⟩ = some (.slice A0_1 l0_1.length c0_1) := (blk_cell BK101.out 1).trans rfl; have hcz10_2 : w9.cell? ⟨gb101, 2, none⟩ = some (.slice A0_2 l0_2.length c0_2) := (blk_cell BK101.out 2).trans rfl; have hfz10_0 := blk_frozen BK101.out 0; have hfz10_1 := blk_frozen BK101.out 1; have hfz10_2 := blk_frozen BK101.out 2) | ((with_reducible refine gate_callee (f := 36) rfl ?_); refine goesL_ (some 8) rfl rfl Try.func36 (by kernel_rfl) rfl #[.slice A0_1 l0_1.length c0_1, .int .i64 a1] rfl sqM ?_; (with_reducible refine (laws_szIntS.calls _ _ l0_1 a1 t102 _ ?side1 ?side2 A3.out).mono ?_); (case side1 => exact sqC (Kd.C_below HR0_1.out HB.out)); (case side2 => exact HC0_1.out); rintro e w' ⟨rfl, ⟨nd, rfl⟩⟩; refine ⟨_, rfl, ?_⟩) | ((with_reducible refine gate_callee (f := 36) rfl ?_); refine goesL_ (some 14) rfl rfl Try.func36 (by kernel_rfl) rfl #[.slice A0_2 l0_2.length c0_2, .int .i64 t102] rfl sqM ?_; (with_reducible refine (laws_szIntS.calls _ _ l0_2 t102 t103 _ ?side1 ?side2 A7.out).mono ?_); (case side1 => exact sqC (Kd.C_below HR0_2.out sqB)); (case side2 => exact HC0_2.out); rintro e w' ⟨rfl, ⟨nd, rfl⟩⟩; refine ⟨_, rfl, ?_⟩))
      go_ret
      exact ⟨sqE, sqB⟩
    · rw [if_neg c8] at H
      have c8b0 : decide (t103 < 0) = false := decide_eq_false c8
      clear c8
      obtain rfl := Option.some.inj H
      go_enter Try.func16, Try.ntmps16
      go_wp2_with (first | ((with_reducible refine gate_dst (N := 2) rfl ?_); refine box_event ?hg (N := 2) ?hd (cs := #[.int .i64 a0_0, .slice A0_1 l0_1.length c0_1, .slice A0_2 l0_2.length c0_2]) (t := 31) ?hr ?_; (case hd => rfl); (case hg => rfl); (case hr => exact sqG); intro gb101 hg w11 hbox hb; have n0_ := Aside0.mk (below_step sqB hb); have n1_ := Aside0.mk (hbox); have n2_ := Aside0.mk ((sqS hg : w.heap.size ≤ gb101)); have n3_ := Aside0.mk ((sqS hg : w.heap.size ≤ gb101)); clear HB; have HB := n0_; have BK101 := n1_; have GW101 := n2_; have GE101 := n3_; clear n0_ n1_ n2_ n3_; clear hb hbox hg; have hcz12_0 : w11.cell? ⟨gb101, 0, none⟩ = some (.int .i64 a0_0) := (blk_cell BK101.out 0).trans rfl; have hcz12_1 : w11.cell? ⟨gb101, 1, none⟩ = some (.slice A0_1 l0_1.length c0_1) := (blk_cell BK101.out 1).trans rfl; have hcz12_2 : w11.cell? ⟨gb101, 2, none⟩ = some (.slice A0_2 l0_2.length c0_2) := (blk_cell BK101.out 2).trans rfl; have hfz12_0 := blk_frozen BK101.out 0; have hfz12_1 := blk_frozen BK101.out 1; have hfz12_2 := blk_frozen BK101.out 2) | ((with_reducible refine gate_callee (f := 36) rfl ?_); refine goesL_ (some 8) rfl rfl Try.func36 (by kernel_rfl) rfl #[.slice A0_1 l0_1.length c0_1, .int .i64 a1] rfl sqM ?_; (with_reducible refine (laws_szIntS.calls _ _ l0_1 a1 t102 _ ?side1 ?side2 A3.out).mono ?_); (case side1 => exact sqC (Kd.C_below HR0_1.out HB.out)); (case side2 => exact HC0_1.out); rintro e w' ⟨rfl, ⟨nd, rfl⟩⟩; refine ⟨_, rfl, ?_⟩) | ((with_reducible refine gate_callee (f := 36) rfl ?_); refine goesL_ (some 14) rfl rfl Try.func36 (by kernel_rfl) rfl #[.slice A0_2 l0_2.length c0_2, .int .i64 t102] rfl sqM ?_; (with_reducible refine (laws_szIntS.calls _ _ l0_2 t102 t103 _ ?side1 ?side2 A7.out).mono ?_); (case side1 => exact sqC (Kd.C_below HR0_2.out sqB)); (case side2 => exact HC0_2.out); rintro e w' ⟨rfl, ⟨nd, rfl⟩⟩; refine ⟨_, rfl, ?_⟩))
      go_ret
      exact ⟨sqE, sqB⟩

mutual
def spec_IsGraph.j0 : Nat → Bool → Int → List Int → List Int → Option (Bool)
  | 0, _, _, _, _ => none
  | k + 1, x22, x105000, x105001, x105002 => if x22 = true then (some false) else (spec_IsGraph.l0 k 0 x105000 x105001 x105002)
def spec_IsGraph.l0 : Nat → Int → Int → List Int → List Int → Option (Bool)
  | 0, _, _, _, _ => none
  | k + 1, x3, x105000, x105001, x105002 => if x3 < (x105001.length : Int) then (if 0 ≤ x3 then ((spec_l1In.f (rd x105001 x3) 0 (wrap64 (x105000 - 1))).bind fun t107 => (if t107 = true then (if x3 < (x105002.length : Int) then ((spec_l1In.f (rd x105002 x3) 0 (wrap64 (x105000 - 1))).bind fun t109 => (if t109 = true then (spec_IsGraph.l0 k (wrap64 (x3 + 1)) x105000 x105001 x105002) else (some false))) else (none)) else (some false))) else (none)) else (some true)
end
def spec_IsGraph.f (k : Nat) (a0_0 : Int) (l0_1 : List Int) (l0_2 : List Int) : Option (Bool) := (spec_l1In.f a0_0 0 6).bind fun t105 => (if t105 = true then (if (l0_1.length : Int) > 8 then (spec_IsGraph.j0 k true a0_0 l0_1 l0_2) else (spec_IsGraph.j0 k ((l0_1.length : Int) != (l0_2.length : Int)) a0_0 l0_1 l0_2)) else (spec_IsGraph.j0 k true a0_0 l0_1 l0_2))
set_option maxHeartbeats 8000000 in
set_option maxRecDepth 100000 in
theorem spec_IsGraph.calls (k : Nat) (a0_0 : Int) (A0_1 : Option Addr) (c0_1 : Nat) (l0_1 : List Int) (A0_2 : Option Addr) (c0_2 : Nat) (l0_2 : List Int) (r : Bool) (w : World) (hr0_1 : Kd.C (Kd.int .i64) w A0_1 l0_1.length l0_1) (hc0_1 : l0_1.length ≤ c0_1) (hr0_2 : Kd.C (Kd.int .i64) w A0_2 l0_2.length l0_2) (hc0_2 : l0_2.length ≤ c0_2) (h : spec_IsGraph.f k a0_0 l0_1 l0_2 = some r) :
    Calls Try.prog 42 #[.agg #[.int .i64 a0_0, .slice A0_1 l0_1.length c0_1, .slice A0_2 l0_2.length c0_2]] w fun e w' => e = .returned (.bool r) ∧ Below w.heap.size w w' := by
  have hu34 := Try.underlying34
  have HR0_1 := Aside0.mk hr0_1
  have HC0_1 := Aside0.mk hc0_1
  clear hr0_1 hc0_1
  have HR0_2 := Aside0.mk hr0_2
  have HC0_2 := Aside0.mk hc0_2
  clear hr0_2 hc0_2
  have HB := Aside0.mk (Below.refl w.heap.size w)
  have H : ((spec_l1In.f a0_0 0 6).bind fun t105 => (if t105 = true then (if (l0_1.length : Int) > 8 then (spec_IsGraph.j0 k true a0_0 l0_1 l0_2) else (spec_IsGraph.j0 k ((l0_1.length : Int) != (l0_2.length : Int)) a0_0 l0_1 l0_2)) else (spec_IsGraph.j0 k true a0_0 l0_1 l0_2))) = some r := h
  clear h
  have HC2 := Aside0.mk H
  clear H
  go_enter Try.func42, Try.ntmps42
  go_upto_region 1 with (first | ((with_reducible refine gate_dst (N := 1) rfl ?_); (try (refine gate_guard (by rfl) ?_; dsimp only)); refine box_event ?hg (N := 1) ?hd (cs := #[.int .i64 a0_0, .slice A0_1 l0_1.length c0_1, .slice A0_2 l0_2.length c0_2]) (t := 34) ?hr ?_; (case hd => rfl); (case hg => rfl); (case hr => exact sqG); intro gb104 hg w3 hbox hb; have n0_ := Aside0.mk (below_step sqB hb); have n1_ := Aside0.mk (hbox); have n2_ := Aside0.mk ((sqS hg : w.heap.size ≤ gb104)); have n3_ := Aside0.mk ((sqS hg : w.heap.size ≤ gb104)); clear HB; have HB := n0_; have BK104 := n1_; have GW104 := n2_; have GE104 := n3_; clear n0_ n1_ n2_ n3_; clear hb hbox hg))
  repeat (go_quiet (first | ((with_reducible refine gate_dst (N := 1) rfl ?_); (try (refine gate_guard (by rfl) ?_; dsimp only)); refine box_event ?hg (N := 1) ?hd (cs := #[.int .i64 a0_0, .slice A0_1 l0_1.length c0_1, .slice A0_2 l0_2.length c0_2]) (t := 34) ?hr ?_; (case hd => rfl); (case hg => rfl); (case hr => exact sqG); intro gb104 hg w3 hbox hb; have n0_ := Aside0.mk (below_step sqB hb); have n1_ := Aside0.mk (hbox); have n2_ := Aside0.mk ((sqS hg : w.heap.size ≤ gb104)); have n3_ := Aside0.mk ((sqS hg : w.heap.size ≤ gb104)); clear HB; have HB := n0_; have BK104 := n1_; have GW104 := n2_; have GE104 := n3_; clear n0_ n1_ n2_ n3_; clear hb hbox hg)); go_upto_region 1 with (first | ((with_reducible refine gate_dst (N := 1) rfl ?_); (try (refine gate_guard (by rfl) ?_; dsimp only)); refine box_event ?hg (N := 1) ?hd (cs := #[.int .i64 a0_0, .slice A0_1 l0_1.length c0_1, .slice A0_2 l0_2.length c0_2]) (t := 34) ?hr ?_; (case hd => rfl); (case hg => rfl); (case hr => exact sqG); intro gb104 hg w3 hbox hb; have n0_ := Aside0.mk (below_step sqB hb); have n1_ := Aside0.mk (hbox); have n2_ := Aside0.mk ((sqS hg : w.heap.size ≤ gb104)); have n3_ := Aside0.mk ((sqS hg : w.heap.size ≤ gb104)); clear HB; have HB := n0_; have BK104 := n1_; have GW104 := n2_; have GE104 := n3_; clear n0_ n1_ n2_ n3_; clear hb hbox hg)))
  (try simp only [Act.put, List.setIfInBounds_toArray, List.set_cons_zero, List.set_cons_succ])
  go_cut [22] (fun v22 wc => ∃ (kq : Nat) (x22_1 : Bool), v22 = .bool x22_1 ∧ Aside0 (spec_IsGraph.j0 kq x22_1 a0_0 l0_1 l0_2 = some r) ∧ Aside0 (kq ≤ k) ∧ Aside0 (wc.heap[gb104]? = some (.cells #[.int .i64 a0_0, (.slice A0_1 l0_1.length c0_1), (.slice A0_2 l0_2.length c0_2)] 34 (0, 0))) ∧ Aside0 (Below w.heap.size w wc))
  case first =>
    have H := HC2.out
    clear HC2
    replace H := Option.bind_eq_some_iff.mp H
    obtain ⟨t105, A40, H⟩ := H
    replace H : (if t105 = true then (if (l0_1.length : Int) > 8 then (spec_IsGraph.j0 k true a0_0 l0_1 l0_2) else (spec_IsGraph.j0 k ((l0_1.length : Int) != (l0_2.length : Int)) a0_0 l0_1 l0_2)) else (spec_IsGraph.j0 k true a0_0 l0_1 l0_2)) = some r := H
    have A4 := Aside0.mk A40
    clear A40
    by_cases c5 : t105 = true
    · subst c5
      have H1 : (if (l0_1.length : Int) > 8 then (spec_IsGraph.j0 k true a0_0 l0_1 l0_2) else (spec_IsGraph.j0 k ((l0_1.length : Int) != (l0_2.length : Int)) a0_0 l0_1 l0_2)) = some r := by rw [if_pos rfl] at H; exact H
      clear H
      have H := H1
      clear H1
      by_cases c6 : (l0_1.length : Int) > 8
      · rw [if_pos c6] at H
        have c6b0 : decide (8 < (l0_1.length : Int)) = true := decide_eq_true c6
        have c6b1 : decide (8 < l0_1.length) = true := decide_eq_true (by omega)
        clear c6
        (first | rw [c6b0] | (simp only [i64_w, i32_w]; rw [c6b0]) | skip)
        have H' := Aside0.mk H
        clear H
        have hcz7_0 : w3.cell? ⟨gb104, 0, none⟩ = some (.int .i64 a0_0) := (blk_cell BK104.out 0).trans rfl
        have hcz7_1 : w3.cell? ⟨gb104, 1, none⟩ = some (.slice A0_1 l0_1.length c0_1) := (blk_cell BK104.out 1).trans rfl
        have hcz7_2 : w3.cell? ⟨gb104, 2, none⟩ = some (.slice A0_2 l0_2.length c0_2) := (blk_cell BK104.out 2).trans rfl
        have hfz7_0 := blk_frozen BK104.out 0; have hfz7_1 := blk_frozen BK104.out 1; have hfz7_2 := blk_frozen BK104.out 2
        go_wp2_with (first | (go_at_call 43; (try simp only [i64_w, i32_w]); (with_reducible refine (spec_l1In.calls a0_0 0 6 true _ A4.out).mono ?_); rintro e w' ⟨rfl, ⟨nd, rfl⟩⟩; (try first | exact ⟨rfl, _, World.drewN_drewN _ _ _⟩ | exact ⟨rfl, _, Eq.trans (World.drewN_drewN _ _ _) (congrArg (World.drewN _) (Nat.add_assoc _ _ _))⟩)))
        repeat (go_quiet (first | (go_at_call 43; (try simp only [i64_w, i32_w]); (with_reducible refine (spec_l1In.calls a0_0 0 6 true _ A4.out).mono ?_); rintro e w' ⟨rfl, ⟨nd, rfl⟩⟩; (try first | exact ⟨rfl, _, World.drewN_drewN _ _ _⟩ | exact ⟨rfl, _, Eq.trans (World.drewN_drewN _ _ _) (congrArg (World.drewN _) (Nat.add_assoc _ _ _))⟩))); try go_wp2_with (first | (go_at_call 43; (try simp only [i64_w, i32_w]); (with_reducible refine (spec_l1In.calls a0_0 0 6 true _ A4.out).mono ?_); rintro e w' ⟨rfl, ⟨nd, rfl⟩⟩; (try first | exact ⟨rfl, _, World.drewN_drewN _ _ _⟩ | exact ⟨rfl, _, Eq.trans (World.drewN_drewN _ _ _) (congrArg (World.drewN _) (Nat.add_assoc _ _ _))⟩))))
        go_meet
        case rel => exact ⟨_, (true), (sqD), H', ⟨by first | omega | exact Nat.le_refl _⟩, ⟨sqK BK104.out⟩, ⟨sqB⟩⟩
      · rw [if_neg c6] at H
        have c6b0 : decide (8 < (l0_1.length : Int)) = false := decide_eq_false c6
        have c6b1 : decide (8 < l0_1.length) = false := decide_eq_false (by omega)
        clear c6
        (first | rw [c6b0] | (simp only [i64_w, i32_w]; rw [c6b0]) | skip)
        have H' := Aside0.mk H
        clear H
        have hcz8_0 : w3.cell? ⟨gb104, 0, none⟩ = some (.int .i64 a0_0) := (blk_cell BK104.out 0).trans rfl
        have hcz8_1 : w3.cell? ⟨gb104, 1, none⟩ = some (.slice A0_1 l0_1.length c0_1) := (blk_cell BK104.out 1).trans rfl
        have hcz8_2 : w3.cell? ⟨gb104, 2, none⟩ = some (.slice A0_2 l0_2.length c0_2) := (blk_cell BK104.out 2).trans rfl
        have hfz8_0 := blk_frozen BK104.out 0; have hfz8_1 := blk_frozen BK104.out 1; have hfz8_2 := blk_frozen BK104.out 2
        go_wp2_with (first | (go_at_call 43; (try simp only [i64_w, i32_w]); (with_reducible refine (spec_l1In.calls a0_0 0 6 true _ A4.out).mono ?_); rintro e w' ⟨rfl, ⟨nd, rfl⟩⟩; (try first | exact ⟨rfl, _, World.drewN_drewN _ _ _⟩ | exact ⟨rfl, _, Eq.trans (World.drewN_drewN _ _ _) (congrArg (World.drewN _) (Nat.add_assoc _ _ _))⟩)))
        repeat (go_quiet (first | (go_at_call 43; (try simp only [i64_w, i32_w]); (with_reducible refine (spec_l1In.calls a0_0 0 6 true _ A4.out).mono ?_); rintro e w' ⟨rfl, ⟨nd, rfl⟩⟩; (try first | exact ⟨rfl, _, World.drewN_drewN _ _ _⟩ | exact ⟨rfl, _, Eq.trans (World.drewN_drewN _ _ _) (congrArg (World.drewN _) (Nat.add_assoc _ _ _))⟩))); try go_wp2_with (first | (go_at_call 43; (try simp only [i64_w, i32_w]); (with_reducible refine (spec_l1In.calls a0_0 0 6 true _ A4.out).mono ?_); rintro e w' ⟨rfl, ⟨nd, rfl⟩⟩; (try first | exact ⟨rfl, _, World.drewN_drewN _ _ _⟩ | exact ⟨rfl, _, Eq.trans (World.drewN_drewN _ _ _) (congrArg (World.drewN _) (Nat.add_assoc _ _ _))⟩))))
        go_meet
        case rel => exact ⟨_, (((l0_1.length : Int) != (l0_2.length : Int))), (sqD), H', ⟨by first | omega | exact Nat.le_refl _⟩, ⟨sqK BK104.out⟩, ⟨sqB⟩⟩
    · replace c5 := Bool.eq_false_iff.mpr c5
      subst c5
      have H1 : (spec_IsGraph.j0 k true a0_0 l0_1 l0_2) = some r := by rw [if_neg (show ¬ (false = true) by decide)] at H; exact H
      clear H
      have H := H1
      clear H1
      have H' := Aside0.mk H
      clear H
      have hcz9_0 : w3.cell? ⟨gb104, 0, none⟩ = some (.int .i64 a0_0) := (blk_cell BK104.out 0).trans rfl
      have hcz9_1 : w3.cell? ⟨gb104, 1, none⟩ = some (.slice A0_1 l0_1.length c0_1) := (blk_cell BK104.out 1).trans rfl
      have hcz9_2 : w3.cell? ⟨gb104, 2, none⟩ = some (.slice A0_2 l0_2.length c0_2) := (blk_cell BK104.out 2).trans rfl
      have hfz9_0 := blk_frozen BK104.out 0; have hfz9_1 := blk_frozen BK104.out 1; have hfz9_2 := blk_frozen BK104.out 2
      go_wp2_with (first | (go_at_call 43; (try simp only [i64_w, i32_w]); (with_reducible refine (spec_l1In.calls a0_0 0 6 false _ A4.out).mono ?_); rintro e w' ⟨rfl, ⟨nd, rfl⟩⟩; (try first | exact ⟨rfl, _, World.drewN_drewN _ _ _⟩ | exact ⟨rfl, _, Eq.trans (World.drewN_drewN _ _ _) (congrArg (World.drewN _) (Nat.add_assoc _ _ _))⟩)))
      repeat (go_quiet (first | (go_at_call 43; (try simp only [i64_w, i32_w]); (with_reducible refine (spec_l1In.calls a0_0 0 6 false _ A4.out).mono ?_); rintro e w' ⟨rfl, ⟨nd, rfl⟩⟩; (try first | exact ⟨rfl, _, World.drewN_drewN _ _ _⟩ | exact ⟨rfl, _, Eq.trans (World.drewN_drewN _ _ _) (congrArg (World.drewN _) (Nat.add_assoc _ _ _))⟩))); try go_wp2_with (first | (go_at_call 43; (try simp only [i64_w, i32_w]); (with_reducible refine (spec_l1In.calls a0_0 0 6 false _ A4.out).mono ?_); rintro e w' ⟨rfl, ⟨nd, rfl⟩⟩; (try first | exact ⟨rfl, _, World.drewN_drewN _ _ _⟩ | exact ⟨rfl, _, Eq.trans (World.drewN_drewN _ _ _) (congrArg (World.drewN _) (Nat.add_assoc _ _ _))⟩))))
      go_meet
      case rel => exact ⟨_, (true), (sqD), H', ⟨by first | omega | exact Nat.le_refl _⟩, ⟨sqK BK104.out⟩, ⟨sqB⟩⟩
  case rest =>
    clear HC2
    try clear p2
    try clear c4
    try clear c5
    try clear c6
    try clear c6b0
    try clear c6b1
    try clear hcz7_0
    try clear hcz7_1
    try clear hcz7_2
    try clear hcz8_0
    try clear hcz8_1
    try clear hcz8_2
    try clear hcz9_0
    try clear hcz9_1
    try clear hcz9_2
    try clear hfz7_0
    try clear hfz7_1
    try clear hfz7_2
    try clear hfz8_0
    try clear hfz8_1
    try clear hfz8_2
    try clear hfz9_0
    try clear hfz9_1
    try clear hfz9_2
    obtain ⟨kq, x22_1, rfl, HA, HJ1, BK104, HB⟩ := hcut
    cases kq with
    | zero => exact absurd HA.out (by simp [spec_IsGraph.j0])
    | succ kj1 =>
      have H := HA.out
      clear HA
      simp only [spec_IsGraph.j0] at H
      by_cases c10 : x22_1 = true
      · subst c10
        have H1 : (some false) = some r := by rw [if_pos rfl] at H; exact H
        clear H
        have H := H1
        clear H1
        obtain rfl := Option.some.inj H
        go_wp2
        repeat (go_quiet (fail); try go_wp2)
        go_ret
        exact ⟨sqE, sqB⟩
      · replace c10 := Bool.eq_false_iff.mpr c10
        subst c10
        have H1 : (spec_IsGraph.l0 kj1 0 a0_0 l0_1 l0_2) = some r := by rw [if_neg (show ¬ (false = true) by decide)] at H; exact H
        clear H
        have H := H1
        clear H1
        have H' := Aside0.mk H
        clear H
        go_wp2
        repeat (go_quiet (fail); try go_wp2)
        go_loopg [3] kj1 (fun kq v3 w' => ∃ (x3_2 : Int), v3 = .int .i64 x3_2 ∧ Aside0 (spec_IsGraph.l0 kq x3_2 a0_0 l0_1 l0_2 = some r) ∧ Aside0 (kq ≤ kj1) ∧ Aside0 (w'.heap[gb104]? = some (.cells #[.int .i64 a0_0, (.slice A0_1 l0_1.length c0_1), (.slice A0_2 l0_2.length c0_2)] 34 (0, 0))) ∧ Aside0 (Below w.heap.size w w'))
        case atStart => exact ⟨(0), (sqD), H', ⟨Nat.le_refl _⟩, ⟨sqK BK104.out⟩, ⟨sqB⟩⟩
        case round =>
          clear H'
          try clear c1
          try clear p2
          try clear c4
          try clear c5
          try clear c6
          try clear c6b0
          try clear c6b1
          try clear c10
          try clear hcz7_0
          try clear hcz7_1
          try clear hcz7_2
          try clear hcz8_0
          try clear hcz8_1
          try clear hcz8_2
          try clear hcz9_0
          try clear hcz9_1
          try clear hcz9_2
          try clear hfz7_0
          try clear hfz7_1
          try clear hfz7_2
          try clear hfz8_0
          try clear hfz8_1
          try clear hfz8_2
          try clear hfz9_0
          try clear hfz9_1
          try clear hfz9_2
          try clear p2
          obtain ⟨x3_2, rfl, HA, HK2, BK104, HB⟩ := hrel
          cases gk with
          | zero => exact absurd HA.out (by simp [spec_IsGraph.l0])
          | succ k2 =>
            have H := HA.out
            clear HA
            simp only [spec_IsGraph.l0] at H
            by_cases c11 : x3_2 < (l0_1.length : Int)
            · rw [if_pos c11] at H
              have c11b0 : decide (x3_2 < (l0_1.length : Int)) = true := decide_eq_true c11
              clear c11
              by_cases c12 : 0 ≤ x3_2
              · rw [if_pos c12] at H
                have c12b0 : decide (0 ≤ x3_2) = true := decide_eq_true c12
                clear c12
                replace H := Option.bind_eq_some_iff.mp H
                obtain ⟨t107, A130, H⟩ := H
                replace H : (if t107 = true then (if x3_2 < (l0_2.length : Int) then ((spec_l1In.f (rd l0_2 x3_2) 0 (wrap64 (a0_0 - 1))).bind fun t109 => (if t109 = true then (spec_IsGraph.l0 k2 (wrap64 (x3_2 + 1)) a0_0 l0_1 l0_2) else (some false))) else (none)) else (some false)) = some r := H
                have A13 := Aside0.mk A130
                clear A130
                by_cases c14 : t107 = true
                · subst c14
                  have H1 : (if x3_2 < (l0_2.length : Int) then ((spec_l1In.f (rd l0_2 x3_2) 0 (wrap64 (a0_0 - 1))).bind fun t109 => (if t109 = true then (spec_IsGraph.l0 k2 (wrap64 (x3_2 + 1)) a0_0 l0_1 l0_2) else (some false))) else (none)) = some r := by rw [if_pos rfl] at H; exact H
                  clear H
                  have H := H1
                  clear H1
                  by_cases c15 : x3_2 < (l0_2.length : Int)
                  · rw [if_pos c15] at H
                    have c15b0 : decide (x3_2 < (l0_2.length : Int)) = true := decide_eq_true c15
                    clear c15
                    replace H := Option.bind_eq_some_iff.mp H
                    obtain ⟨t109, A160, H⟩ := H
                    replace H : (if t109 = true then (spec_IsGraph.l0 k2 (wrap64 (x3_2 + 1)) a0_0 l0_1 l0_2) else (some false)) = some r := H
                    have A16 := Aside0.mk A160
                    clear A160
                    by_cases c17 : t109 = true
                    · subst c17
                      have H1 : (spec_IsGraph.l0 k2 (wrap64 (x3_2 + 1)) a0_0 l0_1 l0_2) = some r := by rw [if_pos rfl] at H; exact H
                      clear H
                      have H := H1
                      clear H1
                      have H' := Aside0.mk H
                      clear H
                      have hcz18_0 : wr.cell? ⟨gb104, 0, none⟩ = some (.int .i64 a0_0) := (blk_cell BK104.out 0).trans rfl
                      have hcz18_1 : wr.cell? ⟨gb104, 1, none⟩ = some (.slice A0_1 l0_1.length c0_1) := (blk_cell BK104.out 1).trans rfl
                      have hcz18_2 : wr.cell? ⟨gb104, 2, none⟩ = some (.slice A0_2 l0_2.length c0_2) := (blk_cell BK104.out 2).trans rfl
                      have hfz18_0 := blk_frozen BK104.out 0; have hfz18_1 := blk_frozen BK104.out 1; have hfz18_2 := blk_frozen BK104.out 2
                      have p106 : 0 ≤ (x3_2 : Int) := of_decide_eq_true sqA
                      have q106 : x3_2 < (l0_1.length : Int) := of_decide_eq_true sqA
                      obtain ⟨ad106, e106, hx106_0⟩ := Kd.at_int HR0_1.out x3_2 p106 q106
                      cases e106
                      replace hx106_0 := (HB.out.cell (World.block_lt_of_cell? w _ hx106_0)).trans hx106_0
                      replace p106 := eq_true p106
                      replace q106 := eq_true q106
                      go_wp2_with (first | (go_at_call 43; (try simp only [i64_w, i32_w]); (with_reducible refine (spec_l1In.calls (rd l0_1 x3_2) 0 (wrap64 (a0_0 - 1)) true _ A13.out).mono ?_); rintro e w' ⟨rfl, ⟨nd, rfl⟩⟩; (try first | exact ⟨rfl, _, World.drewN_drewN _ _ _⟩ | exact ⟨rfl, _, Eq.trans (World.drewN_drewN _ _ _) (congrArg (World.drewN _) (Nat.add_assoc _ _ _))⟩); have p108 : 0 ≤ (x3_2 : Int) := of_decide_eq_true sqA; have q108 : x3_2 < (l0_2.length : Int) := of_decide_eq_true sqA; obtain ⟨ad108, e108, hx108_0⟩ := Kd.at_int HR0_2.out x3_2 p108 q108; cases e108; replace hx108_0 := (HB.out.cell (World.block_lt_of_cell? w _ hx108_0)).trans hx108_0; replace p108 := eq_true p108; replace q108 := eq_true q108) | (go_at_call 43; (try simp only [i64_w, i32_w]); (with_reducible refine (spec_l1In.calls (rd l0_2 x3_2) 0 (wrap64 (a0_0 - 1)) true _ A16.out).mono ?_); rintro e w' ⟨rfl, ⟨nd, rfl⟩⟩; (try first | exact ⟨rfl, _, World.drewN_drewN _ _ _⟩ | exact ⟨rfl, _, Eq.trans (World.drewN_drewN _ _ _) (congrArg (World.drewN _) (Nat.add_assoc _ _ _))⟩)))
                      repeat (go_quiet (first | (go_at_call 43; (try simp only [i64_w, i32_w]); (with_reducible refine (spec_l1In.calls (rd l0_1 x3_2) 0 (wrap64 (a0_0 - 1)) true _ A13.out).mono ?_); rintro e w' ⟨rfl, ⟨nd, rfl⟩⟩; (try first | exact ⟨rfl, _, World.drewN_drewN _ _ _⟩ | exact ⟨rfl, _, Eq.trans (World.drewN_drewN _ _ _) (congrArg (World.drewN _) (Nat.add_assoc _ _ _))⟩); have p108 : 0 ≤ (x3_2 : Int) := of_decide_eq_true sqA; have q108 : x3_2 < (l0_2.length : Int) := of_decide_eq_true sqA; obtain ⟨ad108, e108, hx108_0⟩ := Kd.at_int HR0_2.out x3_2 p108 q108; cases e108; replace hx108_0 := (HB.out.cell (World.block_lt_of_cell? w _ hx108_0)).trans hx108_0; replace p108 := eq_true p108; replace q108 := eq_true q108) | (go_at_call 43; (try simp only [i64_w, i32_w]); (with_reducible refine (spec_l1In.calls (rd l0_2 x3_2) 0 (wrap64 (a0_0 - 1)) true _ A16.out).mono ?_); rintro e w' ⟨rfl, ⟨nd, rfl⟩⟩; (try first | exact ⟨rfl, _, World.drewN_drewN _ _ _⟩ | exact ⟨rfl, _, Eq.trans (World.drewN_drewN _ _ _) (congrArg (World.drewN _) (Nat.add_assoc _ _ _))⟩))); try go_wp2_with (first | (go_at_call 43; (try simp only [i64_w, i32_w]); (with_reducible refine (spec_l1In.calls (rd l0_1 x3_2) 0 (wrap64 (a0_0 - 1)) true _ A13.out).mono ?_); rintro e w' ⟨rfl, ⟨nd, rfl⟩⟩; (try first | exact ⟨rfl, _, World.drewN_drewN _ _ _⟩ | exact ⟨rfl, _, Eq.trans (World.drewN_drewN _ _ _) (congrArg (World.drewN _) (Nat.add_assoc _ _ _))⟩); have p108 : 0 ≤ (x3_2 : Int) := of_decide_eq_true sqA; have q108 : x3_2 < (l0_2.length : Int) := of_decide_eq_true sqA; obtain ⟨ad108, e108, hx108_0⟩ := Kd.at_int HR0_2.out x3_2 p108 q108; cases e108; replace hx108_0 := (HB.out.cell (World.block_lt_of_cell? w _ hx108_0)).trans hx108_0; replace p108 := eq_true p108; replace q108 := eq_true q108) | (go_at_call 43; (try simp only [i64_w, i32_w]); (with_reducible refine (spec_l1In.calls (rd l0_2 x3_2) 0 (wrap64 (a0_0 - 1)) true _ A16.out).mono ?_); rintro e w' ⟨rfl, ⟨nd, rfl⟩⟩; (try first | exact ⟨rfl, _, World.drewN_drewN _ _ _⟩ | exact ⟨rfl, _, Eq.trans (World.drewN_drewN _ _ _) (congrArg (World.drewN _) (Nat.add_assoc _ _ _))⟩))))
                      go_roundg k2
                      case measure => have := HJ1.out; have := HK2.out; omega
                      case rel => exact ⟨(wrap64 (x3_2 + 1)), (sqD), H', ⟨by have := HJ1.out; have := HK2.out; omega⟩, ⟨sqK BK104.out⟩, ⟨sqB⟩⟩
                    · replace c17 := Bool.eq_false_iff.mpr c17
                      subst c17
                      have H1 : (some false) = some r := by rw [if_neg (show ¬ (false = true) by decide)] at H; exact H
                      clear H
                      have H := H1
                      clear H1
                      obtain rfl := Option.some.inj H
                      have hcz19_0 : wr.cell? ⟨gb104, 0, none⟩ = some (.int .i64 a0_0) := (blk_cell BK104.out 0).trans rfl
                      have hcz19_1 : wr.cell? ⟨gb104, 1, none⟩ = some (.slice A0_1 l0_1.length c0_1) := (blk_cell BK104.out 1).trans rfl
                      have hcz19_2 : wr.cell? ⟨gb104, 2, none⟩ = some (.slice A0_2 l0_2.length c0_2) := (blk_cell BK104.out 2).trans rfl
                      have hfz19_0 := blk_frozen BK104.out 0; have hfz19_1 := blk_frozen BK104.out 1; have hfz19_2 := blk_frozen BK104.out 2
                      have p106 : 0 ≤ (x3_2 : Int) := of_decide_eq_true sqA
                      have q106 : x3_2 < (l0_1.length : Int) := of_decide_eq_true sqA
                      obtain ⟨ad106, e106, hx106_0⟩ := Kd.at_int HR0_1.out x3_2 p106 q106
                      cases e106
                      replace hx106_0 := (HB.out.cell (World.block_lt_of_cell? w _ hx106_0)).trans hx106_0
                      replace p106 := eq_true p106
                      replace q106 := eq_true q106
                      go_wp2_with (first | (go_at_call 43; (try simp only [i64_w, i32_w]); (with_reducible refine (spec_l1In.calls (rd l0_1 x3_2) 0 (wrap64 (a0_0 - 1)) true _ A13.out).mono ?_); rintro e w' ⟨rfl, ⟨nd, rfl⟩⟩; (try first | exact ⟨rfl, _, World.drewN_drewN _ _ _⟩ | exact ⟨rfl, _, Eq.trans (World.drewN_drewN _ _ _) (congrArg (World.drewN _) (Nat.add_assoc _ _ _))⟩); have p108 : 0 ≤ (x3_2 : Int) := of_decide_eq_true sqA; have q108 : x3_2 < (l0_2.length : Int) := of_decide_eq_true sqA; obtain ⟨ad108, e108, hx108_0⟩ := Kd.at_int HR0_2.out x3_2 p108 q108; cases e108; replace hx108_0 := (HB.out.cell (World.block_lt_of_cell? w _ hx108_0)).trans hx108_0; replace p108 := eq_true p108; replace q108 := eq_true q108) | (go_at_call 43; (try simp only [i64_w, i32_w]); (with_reducible refine (spec_l1In.calls (rd l0_2 x3_2) 0 (wrap64 (a0_0 - 1)) false _ A16.out).mono ?_); rintro e w' ⟨rfl, ⟨nd, rfl⟩⟩; (try first | exact ⟨rfl, _, World.drewN_drewN _ _ _⟩ | exact ⟨rfl, _, Eq.trans (World.drewN_drewN _ _ _) (congrArg (World.drewN _) (Nat.add_assoc _ _ _))⟩)))
                      repeat (go_quiet (first | (go_at_call 43; (try simp only [i64_w, i32_w]); (with_reducible refine (spec_l1In.calls (rd l0_1 x3_2) 0 (wrap64 (a0_0 - 1)) true _ A13.out).mono ?_); rintro e w' ⟨rfl, ⟨nd, rfl⟩⟩; (try first | exact ⟨rfl, _, World.drewN_drewN _ _ _⟩ | exact ⟨rfl, _, Eq.trans (World.drewN_drewN _ _ _) (congrArg (World.drewN _) (Nat.add_assoc _ _ _))⟩); have p108 : 0 ≤ (x3_2 : Int) := of_decide_eq_true sqA; have q108 : x3_2 < (l0_2.length : Int) := of_decide_eq_true sqA; obtain ⟨ad108, e108, hx108_0⟩ := Kd.at_int HR0_2.out x3_2 p108 q108; cases e108; replace hx108_0 := (HB.out.cell (World.block_lt_of_cell? w _ hx108_0)).trans hx108_0; replace p108 := eq_true p108; replace q108 := eq_true q108) | (go_at_call 43; (try simp only [i64_w, i32_w]); (with_reducible refine (spec_l1In.calls (rd l0_2 x3_2) 0 (wrap64 (a0_0 - 1)) false _ A16.out).mono ?_); rintro e w' ⟨rfl, ⟨nd, rfl⟩⟩; (try first | exact ⟨rfl, _, World.drewN_drewN _ _ _⟩ | exact ⟨rfl, _, Eq.trans (World.drewN_drewN _ _ _) (congrArg (World.drewN _) (Nat.add_assoc _ _ _))⟩))); try go_wp2_with (first | (go_at_call 43; (try simp only [i64_w, i32_w]); (with_reducible refine (spec_l1In.calls (rd l0_1 x3_2) 0 (wrap64 (a0_0 - 1)) true _ A13.out).mono ?_); rintro e w' ⟨rfl, ⟨nd, rfl⟩⟩; (try first | exact ⟨rfl, _, World.drewN_drewN _ _ _⟩ | exact ⟨rfl, _, Eq.trans (World.drewN_drewN _ _ _) (congrArg (World.drewN _) (Nat.add_assoc _ _ _))⟩); have p108 : 0 ≤ (x3_2 : Int) := of_decide_eq_true sqA; have q108 : x3_2 < (l0_2.length : Int) := of_decide_eq_true sqA; obtain ⟨ad108, e108, hx108_0⟩ := Kd.at_int HR0_2.out x3_2 p108 q108; cases e108; replace hx108_0 := (HB.out.cell (World.block_lt_of_cell? w _ hx108_0)).trans hx108_0; replace p108 := eq_true p108; replace q108 := eq_true q108) | (go_at_call 43; (try simp only [i64_w, i32_w]); (with_reducible refine (spec_l1In.calls (rd l0_2 x3_2) 0 (wrap64 (a0_0 - 1)) false _ A16.out).mono ?_); rintro e w' ⟨rfl, ⟨nd, rfl⟩⟩; (try first | exact ⟨rfl, _, World.drewN_drewN _ _ _⟩ | exact ⟨rfl, _, Eq.trans (World.drewN_drewN _ _ _) (congrArg (World.drewN _) (Nat.add_assoc _ _ _))⟩))))
                      go_ret
                      exact ⟨sqE, sqB⟩
                  · rw [if_neg c15] at H
                    exact absurd H (by simp)
                · replace c14 := Bool.eq_false_iff.mpr c14
                  subst c14
                  have H1 : (some false) = some r := by rw [if_neg (show ¬ (false = true) by decide)] at H; exact H
                  clear H
                  have H := H1
                  clear H1
                  obtain rfl := Option.some.inj H
                  have hcz20_0 : wr.cell? ⟨gb104, 0, none⟩ = some (.int .i64 a0_0) := (blk_cell BK104.out 0).trans rfl
                  have hcz20_1 : wr.cell? ⟨gb104, 1, none⟩ = some (.slice A0_1 l0_1.length c0_1) := (blk_cell BK104.out 1).trans rfl
                  have hcz20_2 : wr.cell? ⟨gb104, 2, none⟩ = some (.slice A0_2 l0_2.length c0_2) := (blk_cell BK104.out 2).trans rfl
                  have hfz20_0 := blk_frozen BK104.out 0; have hfz20_1 := blk_frozen BK104.out 1; have hfz20_2 := blk_frozen BK104.out 2
                  have p106 : 0 ≤ (x3_2 : Int) := of_decide_eq_true sqA
                  have q106 : x3_2 < (l0_1.length : Int) := of_decide_eq_true sqA
                  obtain ⟨ad106, e106, hx106_0⟩ := Kd.at_int HR0_1.out x3_2 p106 q106
                  cases e106
                  replace hx106_0 := (HB.out.cell (World.block_lt_of_cell? w _ hx106_0)).trans hx106_0
                  replace p106 := eq_true p106
                  replace q106 := eq_true q106
                  go_wp2_with (first | (go_at_call 43; (try simp only [i64_w, i32_w]); (with_reducible refine (spec_l1In.calls (rd l0_1 x3_2) 0 (wrap64 (a0_0 - 1)) false _ A13.out).mono ?_); rintro e w' ⟨rfl, ⟨nd, rfl⟩⟩; (try first | exact ⟨rfl, _, World.drewN_drewN _ _ _⟩ | exact ⟨rfl, _, Eq.trans (World.drewN_drewN _ _ _) (congrArg (World.drewN _) (Nat.add_assoc _ _ _))⟩)))
                  repeat (go_quiet (first | (go_at_call 43; (try simp only [i64_w, i32_w]); (with_reducible refine (spec_l1In.calls (rd l0_1 x3_2) 0 (wrap64 (a0_0 - 1)) false _ A13.out).mono ?_); rintro e w' ⟨rfl, ⟨nd, rfl⟩⟩; (try first | exact ⟨rfl, _, World.drewN_drewN _ _ _⟩ | exact ⟨rfl, _, Eq.trans (World.drewN_drewN _ _ _) (congrArg (World.drewN _) (Nat.add_assoc _ _ _))⟩))); try go_wp2_with (first | (go_at_call 43; (try simp only [i64_w, i32_w]); (with_reducible refine (spec_l1In.calls (rd l0_1 x3_2) 0 (wrap64 (a0_0 - 1)) false _ A13.out).mono ?_); rintro e w' ⟨rfl, ⟨nd, rfl⟩⟩; (try first | exact ⟨rfl, _, World.drewN_drewN _ _ _⟩ | exact ⟨rfl, _, Eq.trans (World.drewN_drewN _ _ _) (congrArg (World.drewN _) (Nat.add_assoc _ _ _))⟩))))
                  go_ret
                  exact ⟨sqE, sqB⟩
              · rw [if_neg c12] at H
                exact absurd H (by simp)
            · rw [if_neg c11] at H
              have c11b0 : decide (x3_2 < (l0_1.length : Int)) = false := decide_eq_false c11
              clear c11
              obtain rfl := Option.some.inj H
              have hcz21_0 : wr.cell? ⟨gb104, 0, none⟩ = some (.int .i64 a0_0) := (blk_cell BK104.out 0).trans rfl
              have hcz21_1 : wr.cell? ⟨gb104, 1, none⟩ = some (.slice A0_1 l0_1.length c0_1) := (blk_cell BK104.out 1).trans rfl
              have hcz21_2 : wr.cell? ⟨gb104, 2, none⟩ = some (.slice A0_2 l0_2.length c0_2) := (blk_cell BK104.out 2).trans rfl
              have hfz21_0 := blk_frozen BK104.out 0; have hfz21_1 := blk_frozen BK104.out 1; have hfz21_2 := blk_frozen BK104.out 2
              go_wp2
              repeat (go_quiet (fail); try go_wp2)
              go_ret
              exact ⟨sqE, sqB⟩

def spec_l14Power.l0 : Nat → Int → Int → Int → Int → Option (Int)
  | 0, _, _, _, _ => none
  | k + 1, x0, x1, x5, x6 => if x6 < x1 then (spec_l14Power.l0 k x0 x1 (wrap64 (x5 * x0)) (wrap64 (x6 + 1))) else (some x5)
def spec_l14Power.f (k : Nat) (a0 : Int) (a1 : Int) : Option (Int) := spec_l14Power.l0 k a0 a1 1 0
set_option maxHeartbeats 8000000 in
set_option maxRecDepth 100000 in
theorem spec_l14Power.calls (k : Nat) (a0 : Int) (a1 : Int) (r : Int) (w : World) (h : spec_l14Power.f k a0 a1 = some r) :
    Calls Try.prog 44 #[.int .i64 a0, .int .i64 a1] w fun e w' => e = .returned (.int .i64 r) ∧ Drawn0 w w' := by
  have H : (spec_l14Power.l0 k a0 a1 1 0) = some r := h
  clear h
  have H' := Aside0.mk H
  clear H
  go_enter Try.func44, Try.ntmps44
  go_wp2
  go_loopg [5, 6] k (fun kq v5 v6 w' => ∃ (x5_1 : Int) (x6_1 : Int), v5 = .int .i64 x5_1 ∧ v6 = .int .i64 x6_1 ∧ Aside0 (spec_l14Power.l0 kq a0 a1 x5_1 x6_1 = some r) ∧ Aside0 (kq ≤ k) ∧ Drawn0 w w')
  case atStart => exact ⟨(1), (0), (sqD), (sqD), H', ⟨Nat.le_refl _⟩, by repeat (first | exact Drawn0.refl _ | apply Drawn0.step)⟩
  case round =>
    clear H'
    try clear p2
    obtain ⟨x5_1, x6_1, rfl, rfl, HA, HK1, ⟨m1, rfl⟩⟩ := hrel
    cases gk with
    | zero => exact absurd HA.out (by simp [spec_l14Power.l0])
    | succ k1 =>
      have H := HA.out
      clear HA
      simp only [spec_l14Power.l0] at H
      by_cases c3 : x6_1 < a1
      · rw [if_pos c3] at H
        have c3b0 : decide (x6_1 < a1) = true := decide_eq_true c3
        clear c3
        have H' := Aside0.mk H
        clear H
        go_wp2
        go_roundg k1
        case measure => have := HK1.out; omega
        case rel => exact ⟨(wrap64 (x5_1 * a0)), (wrap64 (x6_1 + 1)), (sqD), (sqD), H', ⟨by have := HK1.out; omega⟩, by repeat (first | exact Drawn0.refl _ | apply Drawn0.step)⟩
      · rw [if_neg c3] at H
        have c3b0 : decide (x6_1 < a1) = false := decide_eq_false c3
        clear c3
        obtain rfl := Option.some.inj H
        go_wp2
        go_ret
        exact ⟨sqD, by repeat (first | exact Drawn0.refl _ | apply Drawn0.step)⟩

def spec_l1Bit.f (a0 : Bool) : Option (Int) := if a0 = true then (some 1) else (some 0)
set_option maxHeartbeats 8000000 in
set_option maxRecDepth 100000 in
theorem spec_l1Bit.calls (a0 : Bool) (r : Int) (w : World) (h : spec_l1Bit.f a0 = some r) :
    Calls Try.prog 45 #[.bool a0] w fun e w' => e = .returned (.int .i64 r) ∧ Drawn0 w w' := by
  have H : (if a0 = true then (some 1) else (some 0)) = some r := h
  clear h
  by_cases c2 : a0 = true
  · subst c2
    have H1 : (some 1) = some r := by rw [if_pos rfl] at H; exact H
    clear H
    have H := H1
    clear H1
    obtain rfl := Option.some.inj H
    go_enter Try.func45, Try.ntmps45
    go_wp2
    go_ret
    exact ⟨sqD, by repeat (first | exact Drawn0.refl _ | apply Drawn0.step)⟩
  · replace c2 := Bool.eq_false_iff.mpr c2
    subst c2
    have H1 : (some 0) = some r := by rw [if_neg (show ¬ (false = true) by decide)] at H; exact H
    clear H
    have H := H1
    clear H1
    obtain rfl := Option.some.inj H
    go_enter Try.func45, Try.ntmps45
    go_wp2
    go_ret
    exact ⟨sqD, by repeat (first | exact Drawn0.refl _ | apply Drawn0.step)⟩

def laws_toGraph.f (k : Nat) (a0_0 : Int) (l0_1 : List Int) (l0_2 : List Int) : Option (Int × List Int × List Int) := (laws_toIntS.f k l0_1).bind fun t133 => ((laws_toIntS.f k l0_2).bind fun t136 => (some (a0_0, t133, t136)))
set_option maxHeartbeats 8000000 in
set_option maxRecDepth 100000 in
theorem laws_toGraph.calls (k : Nat) (a0_0 : Int) (A0_1 : Option Addr) (c0_1 : Nat) (l0_1 : List Int) (A0_2 : Option Addr) (c0_2 : Nat) (l0_2 : List Int) (r1 : Int) (r2 : List Int) (r3 : List Int) (w : World) (hr0_1 : Kd.C (Kd.int .i64) w A0_1 l0_1.length l0_1) (hc0_1 : l0_1.length ≤ c0_1) (hr0_2 : Kd.C (Kd.int .i64) w A0_2 l0_2.length l0_2) (hc0_2 : l0_2.length ≤ c0_2) (h : laws_toGraph.f k a0_0 l0_1 l0_2 = some (r1, r2, r3)) :
    Calls Try.prog 18 #[.agg #[.int .i64 a0_0, .slice A0_1 l0_1.length c0_1, .slice A0_2 l0_2.length c0_2]] w fun e w' => ∃ v1_ v2_ : Value, e = .returned (.agg #[.int .i64 r1, v1_, v2_]) ∧ Kd.R (Kd.int .i64) 3 w' w.heap.size (fun k_ => some k_ ≠ (v2_ : Value).ownBlock) v1_ r2 ∧ Kd.R (Kd.int .i64) 3 w' w.heap.size (fun k_ => some k_ ≠ (v1_ : Value).ownBlock) v2_ r3 ∧ Below w.heap.size w w' := by
  have hu31 := Try.underlying31
  have hu34 := Try.underlying34
  have HR0_1 := Aside0.mk hr0_1
  have HC0_1 := Aside0.mk hc0_1
  clear hr0_1 hc0_1
  have HR0_2 := Aside0.mk hr0_2
  have HC0_2 := Aside0.mk hc0_2
  clear hr0_2 hc0_2
  have HB := Aside0.mk (Below.refl w.heap.size w)
  have H : ((laws_toIntS.f k l0_1).bind fun t133 => ((laws_toIntS.f k l0_2).bind fun t136 => (some (a0_0, t133, t136)))) = some (r1, r2, r3) := h
  clear h
  replace H := Option.bind_eq_some_iff.mp H
  obtain ⟨t133, A20, H⟩ := H
  replace H : ((laws_toIntS.f k l0_2).bind fun t136 => (some (a0_0, t133, t136))) = some (r1, r2, r3) := H
  have A2 := Aside0.mk A20
  clear A20
  replace H := Option.bind_eq_some_iff.mp H
  obtain ⟨t136, A30, H⟩ := H
  replace H : (some (a0_0, t133, t136)) = some (r1, r2, r3) := H
  have A3 := Aside0.mk A30
  clear A30
  simp only [Option.some.injEq, Prod.mk.injEq] at H
  obtain ⟨rfl, rfl, rfl⟩ := H
  go_enter Try.func18, Try.ntmps18
  go_wp2_with (first | ((with_reducible refine gate_dst (N := 1) rfl ?_); refine box_event ?hg (N := 1) ?hd (cs := #[.int .i64 a0_0, .slice A0_1 l0_1.length c0_1, .slice A0_2 l0_2.length c0_2]) (t := 31) ?hr ?_; (case hd => rfl); (case hg => rfl); (case hr => exact sqG); intro gb130 hg w4 hbox hb; have n0_ := Aside0.mk (below_step sqB hb); have n1_ := Aside0.mk (hbox); have n2_ := Aside0.mk ((sqS hg : w.heap.size ≤ gb130)); have n3_ := Aside0.mk ((sqS hg : w.heap.size ≤ gb130)); clear HB; have HB := n0_; have BK130 := n1_; have GW130 := n2_; have GE130 := n3_; clear n0_ n1_ n2_ n3_; clear hb hbox hg) | ((with_reducible refine gate_dst (N := 2) rfl ?_); refine box_event ?hg (N := 2) ?hd (cs := #[.int .i64 0, .slice none 0 0, .slice none 0 0]) (t := 34) ?hr ?_; (case hd => rfl); (case hg => rfl); (case hr => exact sqG); intro gb131 hg w5 hbox hb; have n0_ := Aside0.mk (blk_below (g := gb130) (o := .cells #[.int .i64 a0_0, .slice A0_1 l0_1.length c0_1, .slice A0_2 l0_2.length c0_2] 31 (0, 0)) (sqK BK130.out) hb); have n1_ := Aside0.mk (below_step sqB hb); have n2_ := Aside0.mk (hbox); have n3_ := Aside0.mk ((sqS hg : w.heap.size ≤ gb131)); have n4_ := Aside0.mk ((sqS hg : w.heap.size ≤ gb131)); have n5_ := Aside0.mk ((by rw [hg]; exact Nat.ne_of_lt (blk_lt (g := gb130) (o := .cells #[.int .i64 a0_0, .slice A0_1 l0_1.length c0_1, .slice A0_2 l0_2.length c0_2] 31 (0, 0)) (sqK BK130.out)) : gb130 ≠ gb131)); have n6_ := Aside0.mk ((by rw [hg]; exact Nat.ne_of_gt (blk_lt (g := gb130) (o := .cells #[.int .i64 a0_0, .slice A0_1 l0_1.length c0_1, .slice A0_2 l0_2.length c0_2] 31 (0, 0)) (sqK BK130.out)) : gb131 ≠ gb130)); clear BK130; clear HB; have BK130 := n0_; have HB := n1_; have BK131 := n2_; have GW131 := n3_; have GE131 := n4_; have NB130_131 := n5_; have NB131_130 := n6_; clear n0_ n1_ n2_ n3_ n4_ n5_ n6_; clear hb hbox hg) | ((with_reducible refine gate_dst (N := 3) rfl ?_); refine box_event ?hg (N := 3) ?hd (cs := #[.int .i64 0, .slice none 0 0, .slice none 0 0]) (t := 34) ?hr ?_; (case hd => rfl); (case hg => rfl); (case hr => exact sqG); intro gb132 hg w6 hbox hb; have n0_ := Aside0.mk (blk_below (g := gb130) (o := .cells #[.int .i64 a0_0, .slice A0_1 l0_1.length c0_1, .slice A0_2 l0_2.length c0_2] 31 (0, 0)) (sqK BK130.out) hb); have n1_ := Aside0.mk (blk_below (g := gb131) (o := .cells #[.int .i64 0, .slice none 0 0, .slice none 0 0] 34 (0, 0)) (sqK BK131.out) hb); have n2_ := Aside0.mk (below_step sqB hb); have n3_ := Aside0.mk (hbox); have n4_ := Aside0.mk ((sqS hg : w.heap.size ≤ gb132)); have n5_ := Aside0.mk ((sqS hg : w.heap.size ≤ gb132)); have n6_ := Aside0.mk ((by rw [hg]; exact Nat.ne_of_lt (blk_lt (g := gb130) (o := .cells #[.int .i64 a0_0, .slice A0_1 l0_1.length c0_1, .slice A0_2 l0_2.length c0_2] 31 (0, 0)) (sqK BK130.out)) : gb130 ≠ gb132)); have n7_ := Aside0.mk ((by rw [hg]; exact Nat.ne_of_gt (blk_lt (g := gb130) (o := .cells #[.int .i64 a0_0, .slice A0_1 l0_1.length c0_1, .slice A0_2 l0_2.length c0_2] 31 (0, 0)) (sqK BK130.out)) : gb132 ≠ gb130)); have n8_ := Aside0.mk ((by rw [hg]; exact Nat.ne_of_lt (blk_lt (g := gb131) (o := .cells #[.int .i64 0, .slice none 0 0, .slice none 0 0] 34 (0, 0)) (sqK BK131.out)) : gb131 ≠ gb132)); have n9_ := Aside0.mk ((by rw [hg]; exact Nat.ne_of_gt (blk_lt (g := gb131) (o := .cells #[.int .i64 0, .slice none 0 0, .slice none 0 0] 34 (0, 0)) (sqK BK131.out)) : gb132 ≠ gb131)); clear BK130; clear BK131; clear HB; have BK130 := n0_; have BK131 := n1_; have HB := n2_; have BK132 := n3_; have GW132 := n4_; have GE132 := n5_; have NB130_132 := n6_; have NB132_130 := n7_; have NB131_132 := n8_; have NB132_131 := n9_; clear n0_ n1_ n2_ n3_ n4_ n5_ n6_ n7_ n8_ n9_; clear hb hbox hg; have hnb7 := NB130_131.out; have hnc7 := NB131_130.out; have hnb8 := NB130_132.out; have hnc8 := NB132_130.out; have hcz9_0 : w6.cell? ⟨gb130, 0, none⟩ = some (.int .i64 a0_0) := (blk_cell BK130.out 0).trans rfl; have hcz9_1 : w6.cell? ⟨gb130, 1, none⟩ = some (.slice A0_1 l0_1.length c0_1) := (blk_cell BK130.out 1).trans rfl; have hcz9_2 : w6.cell? ⟨gb130, 2, none⟩ = some (.slice A0_2 l0_2.length c0_2) := (blk_cell BK130.out 2).trans rfl; have hfz9_0 := blk_frozen BK130.out 0; have hfz9_1 := blk_frozen BK130.out 1; have hfz9_2 := blk_frozen BK130.out 2; have hnb10 := NB132_131.out; have hnc10 := NB131_132.out; have hcz11_0 : w6.cell? ⟨gb132, 0, none⟩ = some (.int .i64 0) := (blk_cell BK132.out 0).trans rfl; have hcz11_1 : w6.cell? ⟨gb132, 1, none⟩ = some (.slice none 0 0) := (blk_cell BK132.out 1).trans rfl; have hcz11_2 : w6.cell? ⟨gb132, 2, none⟩ = some (.slice none 0 0) := (blk_cell BK132.out 2).trans rfl; have hfz11_0 := blk_frozen BK132.out 0; have hfz11_1 := blk_frozen BK132.out 1; have hfz11_2 := blk_frozen BK132.out 2) | ((with_reducible refine gate_callee (f := 38) rfl ?_); refine goesL_ (some 9) rfl rfl Try.func38 (by kernel_rfl) rfl #[.slice A0_1 l0_1.length c0_1] rfl sqM ?_; (with_reducible refine (laws_toIntS.calls k _ _ l0_1 t133 _ ?side1 ?side2 A2.out).mono ?_); (case side1 => exact Kd.C_below HR0_1.out sqB); (case side2 => exact HC0_1.out); rintro e w12 ⟨v134, rfl, ho0, hb⟩; refine ⟨_, rfl, ?_⟩; have n0_ := Aside0.mk (Kd.R_lower ho0 (below_size sqB)); have n1_ := Aside0.mk (blk_below (g := gb130) (o := .cells #[.int .i64 a0_0, .slice A0_1 l0_1.length c0_1, .slice A0_2 l0_2.length c0_2] 31 (0, 0)) (by refine sqK ?_; refine blk_far ?_ NB130_132.out _; refine sqK ?_; exact BK130.out) hb); have n2_ := Aside0.mk (blk_below (g := gb131) (o := .cells #[.int .i64 0, .slice none 0 0, .slice none 0 0] 34 (0, 0)) (by refine sqK ?_; refine blk_far ?_ NB131_132.out _; refine sqK ?_; exact BK131.out) hb); have n3_ := Aside0.mk (blk_below (g := gb132) (o := .cells #[.int .i64 a0_0, .slice none 0 0, .slice none 0 0] 34 (0, 0)) (by refine sqK ?_; refine blk_put (cs := #[.int .i64 0, .slice none 0 0, .slice none 0 0]) ?_ 0 _ rfl; refine sqK ?_; exact BK132.out) hb); have n4_ := Aside0.mk (below_step sqB hb); clear BK130; clear BK131; clear BK132; clear HB; have HO135 := n0_; have BK130 := n1_; have BK131 := n2_; have BK132 := n3_; have HB := n4_; clear n0_ n1_ n2_ n3_ n4_; (try clear hb); (try clear hb2); (try clear hk); (try clear hi); (try clear ho0); obtain ⟨Ao13, co13, eo13⟩ := Kd.R_slice HO135.out; subst eo13; have hcz14_0 : w12.cell? ⟨gb132, 0, none⟩ = some (.int .i64 a0_0) := (blk_cell BK132.out 0).trans rfl; have hcz14_1 : w12.cell? ⟨gb132, 1, none⟩ = some (.slice none 0 0) := (blk_cell BK132.out 1).trans rfl; have hcz14_2 : w12.cell? ⟨gb132, 2, none⟩ = some (.slice none 0 0) := (blk_cell BK132.out 2).trans rfl; have hfz14_0 := blk_frozen BK132.out 0; have hfz14_1 := blk_frozen BK132.out 1; have hfz14_2 := blk_frozen BK132.out 2; have hcz15_0 : w12.cell? ⟨gb130, 0, none⟩ = some (.int .i64 a0_0) := (blk_cell BK130.out 0).trans rfl; have hcz15_1 : w12.cell? ⟨gb130, 1, none⟩ = some (.slice A0_1 l0_1.length c0_1) := (blk_cell BK130.out 1).trans rfl; have hcz15_2 : w12.cell? ⟨gb130, 2, none⟩ = some (.slice A0_2 l0_2.length c0_2) := (blk_cell BK130.out 2).trans rfl; have hfz15_0 := blk_frozen BK130.out 0; have hfz15_1 := blk_frozen BK130.out 1; have hfz15_2 := blk_frozen BK130.out 2) | ((with_reducible refine gate_callee (f := 38) rfl ?_); refine goesL_ (some 13) rfl rfl Try.func38 (by kernel_rfl) rfl #[.slice A0_2 l0_2.length c0_2] rfl sqM ?_; (with_reducible refine (laws_toIntS.calls k _ _ l0_2 t136 _ ?side1 ?side2 A3.out).mono ?_); (case side1 => exact Kd.C_below HR0_2.out sqB); (case side2 => exact HC0_2.out); rintro e w16 ⟨v137, rfl, ho0, hb⟩; refine ⟨_, rfl, ?_⟩; have n0_ := Aside0.mk (Kd.R_elder' (by refine sqR ?_; exact (Kd.R_mono (Kd.R_far (p := ⟨gb132, 1, none⟩) (Kd.R_types HO135.out BK132.out (by decide)) (fun _ hk => hk.2) (.slice Ao13 t133.length co13)) (fun _ h_ => h_.1))) (Kd.R_base ho0) hb); have n1_ := Aside0.mk (Kd.R_lower (Kd.R_new' ho0 (Kd.R_lt (by refine sqR ?_; exact (Kd.R_mono (Kd.R_far (p := ⟨gb132, 1, none⟩) (Kd.R_types HO135.out BK132.out (by decide)) (fun _ hk => hk.2) (.slice Ao13 t133.length co13)) (fun _ h_ => h_.1))))) (below_size sqB)); have n2_ := Aside0.mk (blk_below (g := gb130) (o := .cells #[.int .i64 a0_0, .slice A0_1 l0_1.length c0_1, .slice A0_2 l0_2.length c0_2] 31 (0, 0)) (by refine sqK ?_; refine blk_far ?_ NB130_132.out _; refine sqK ?_; exact BK130.out) hb); have n3_ := Aside0.mk (blk_below (g := gb131) (o := .cells #[.int .i64 0, .slice none 0 0, .slice none 0 0] 34 (0, 0)) (by refine sqK ?_; refine blk_far ?_ NB131_132.out _; refine sqK ?_; exact BK131.out) hb); have n4_ := Aside0.mk (blk_below (g := gb132) (o := .cells #[.int .i64 a0_0, .slice Ao13 t133.length co13, .slice none 0 0] 34 (0, 0)) (by refine sqK ?_; refine blk_put (cs := #[.int .i64 a0_0, .slice none 0 0, .slice none 0 0]) ?_ 1 _ rfl; refine sqK ?_; exact BK132.out) hb); have n5_ := Aside0.mk (below_step sqB hb); clear HO135; clear BK130; clear BK131; clear BK132; clear HB; have HO135 := n0_; have HO138 := n1_; have BK130 := n2_; have BK131 := n3_; have BK132 := n4_; have HB := n5_; clear n0_ n1_ n2_ n3_ n4_ n5_; (try clear hb); (try clear hb2); (try clear hk); (try clear hi); (try clear ho0); obtain ⟨Ao17, co17, eo17⟩ := Kd.R_slice HO138.out; subst eo17; have hcz18_0 : w16.cell? ⟨gb132, 0, none⟩ = some (.int .i64 a0_0) := (blk_cell BK132.out 0).trans rfl; have hcz18_1 : w16.cell? ⟨gb132, 1, none⟩ = some (.slice Ao13 t133.length co13) := (blk_cell BK132.out 1).trans rfl; have hcz18_2 : w16.cell? ⟨gb132, 2, none⟩ = some (.slice none 0 0) := (blk_cell BK132.out 2).trans rfl; have hfz18_0 := blk_frozen BK132.out 0; have hfz18_1 := blk_frozen BK132.out 1; have hfz18_2 := blk_frozen BK132.out 2; have hcz19_0 : w16.cell? ⟨gb131, 0, none⟩ = some (.int .i64 0) := (blk_cell BK131.out 0).trans rfl; have hcz19_1 : w16.cell? ⟨gb131, 1, none⟩ = some (.slice none 0 0) := (blk_cell BK131.out 1).trans rfl; have hcz19_2 : w16.cell? ⟨gb131, 2, none⟩ = some (.slice none 0 0) := (blk_cell BK131.out 2).trans rfl; have hfz19_0 := blk_frozen BK131.out 0; have hfz19_1 := blk_frozen BK131.out 1; have hfz19_2 := blk_frozen BK131.out 2))
  refine bodyPost_ret (results_cell_row rfl _ _ gb131 34 #[.int .i64 a0_0, .slice Ao13 t133.length co13, .slice Ao17 t136.length co17] (0, 0) _ rfl (by refine sqK ?_; refine blk_put (cs := #[.int .i64 a0_0, .slice Ao13 t133.length co13, .slice none 0 0]) ?_ 2 _ rfl; refine sqK ?_; refine blk_put (cs := #[.int .i64 a0_0, .slice none 0 0, .slice none 0 0]) ?_ 1 _ rfl; refine sqK ?_; refine blk_put (cs := #[.int .i64 0, .slice none 0 0, .slice none 0 0]) ?_ 0 _ rfl; refine sqK ?_; refine blk_far ?_ NB131_132.out _; refine sqK ?_; exact BK131.out) Try.underlying34 rfl (by kernel_rfl)) rfl ?_
  exact ⟨_, _, sqE, by refine sqR ?_; exact Kd.R_mono (Kd.R_far (p := ⟨gb131, 2, none⟩) (Kd.R_far (p := ⟨gb131, 1, none⟩) (Kd.R_far (p := ⟨gb131, 0, none⟩) (Kd.R_far (p := ⟨gb132, 2, none⟩) (Kd.R_types (Kd.R_types HO135.out BK132.out (by decide)) BK131.out (by decide)) (fun _ hk => hk.1.2) (.slice Ao17 t136.length co17)) (fun _ hk => hk.2) (.int .i64 a0_0)) (fun _ hk => hk.2) (.slice Ao13 t133.length co13)) (fun _ hk => hk.2) (.slice Ao17 t136.length co17)) (fun _ hk => hk.1.1.2), by refine sqR ?_; exact Kd.R_mono (Kd.R_far (p := ⟨gb131, 2, none⟩) (Kd.R_far (p := ⟨gb131, 1, none⟩) (Kd.R_far (p := ⟨gb131, 0, none⟩) (Kd.R_far (p := ⟨gb132, 2, none⟩) (Kd.R_types (Kd.R_types HO138.out BK132.out (by decide)) BK131.out (by decide)) (fun _ hk => hk.1.2) (.slice Ao17 t136.length co17)) (fun _ hk => hk.2) (.int .i64 a0_0)) (fun _ hk => hk.2) (.slice Ao13 t133.length co13)) (fun _ hk => hk.2) (.slice Ao17 t136.length co17)) (fun _ hk => hk.1.1.2), sqB⟩

mutual
def impl_IsGraph.j0 : Nat → Bool → Int → List Int → List Int → Option (Bool)
  | 0, _, _, _, _ => none
  | k + 1, x26, x140000, x140001, x140002 => if x26 = true then (some false) else (impl_IsGraph.l0 k (x140001.length : Int) 0 x140000 x140001 x140002)
def impl_IsGraph.l0 : Nat → Int → Int → Int → List Int → List Int → Option (Bool)
  | 0, _, _, _, _, _ => none
  | k + 1, x29, x30, x140000, x140001, x140002 => if x30 < x29 then (if 0 ≤ x30 then (if x30 < (x140001.length : Int) then (if (rd x140001 x30) < 0 then (some false) else (if (rd x140001 x30) ≥ x140000 then (some false) else (if x30 < (x140002.length : Int) then (if (rd x140002 x30) < 0 then (some false) else (if (rd x140002 x30) ≥ x140000 then (some false) else (impl_IsGraph.l0 k x29 (wrap64 (x30 + 1)) x140000 x140001 x140002))) else (none)))) else (none)) else (none)) else (some true)
end
def impl_IsGraph.f (k : Nat) (a0_0 : Int) (l0_1 : List Int) (l0_2 : List Int) : Option (Bool) := if a0_0 < 0 then (impl_IsGraph.j0 k true a0_0 l0_1 l0_2) else (if a0_0 > 6 then (impl_IsGraph.j0 k true a0_0 l0_1 l0_2) else (if (l0_1.length : Int) > 8 then (impl_IsGraph.j0 k true a0_0 l0_1 l0_2) else (impl_IsGraph.j0 k ((l0_1.length : Int) != (l0_2.length : Int)) a0_0 l0_1 l0_2)))
set_option maxHeartbeats 8000000 in
set_option maxRecDepth 100000 in
theorem impl_IsGraph.calls (k : Nat) (a0_0 : Int) (A0_1 : Option Addr) (c0_1 : Nat) (l0_1 : List Int) (A0_2 : Option Addr) (c0_2 : Nat) (l0_2 : List Int) (r : Bool) (w : World) (hr0_1 : Kd.C (Kd.int .i64) w A0_1 l0_1.length l0_1) (hc0_1 : l0_1.length ≤ c0_1) (hr0_2 : Kd.C (Kd.int .i64) w A0_2 l0_2.length l0_2) (hc0_2 : l0_2.length ≤ c0_2) (h : impl_IsGraph.f k a0_0 l0_1 l0_2 = some r) :
    Calls Try.prog 46 #[.agg #[.int .i64 a0_0, .slice A0_1 l0_1.length c0_1, .slice A0_2 l0_2.length c0_2]] w fun e w' => e = .returned (.bool r) ∧ Below w.heap.size w w' := by
  have hu34 := Try.underlying34
  have HR0_1 := Aside0.mk hr0_1
  have HC0_1 := Aside0.mk hc0_1
  clear hr0_1 hc0_1
  have HR0_2 := Aside0.mk hr0_2
  have HC0_2 := Aside0.mk hc0_2
  clear hr0_2 hc0_2
  have HB := Aside0.mk (Below.refl w.heap.size w)
  have H : (if a0_0 < 0 then (impl_IsGraph.j0 k true a0_0 l0_1 l0_2) else (if a0_0 > 6 then (impl_IsGraph.j0 k true a0_0 l0_1 l0_2) else (if (l0_1.length : Int) > 8 then (impl_IsGraph.j0 k true a0_0 l0_1 l0_2) else (impl_IsGraph.j0 k ((l0_1.length : Int) != (l0_2.length : Int)) a0_0 l0_1 l0_2)))) = some r := h
  clear h
  have HC2 := Aside0.mk H
  clear H
  go_enter Try.func46, Try.ntmps46
  go_upto_region 1 with (first | ((with_reducible refine gate_dst (N := 1) rfl ?_); (try (refine gate_guard (by rfl) ?_; dsimp only)); refine box_event ?hg (N := 1) ?hd (cs := #[.int .i64 a0_0, .slice A0_1 l0_1.length c0_1, .slice A0_2 l0_2.length c0_2]) (t := 34) ?hr ?_; (case hd => rfl); (case hg => rfl); (case hr => exact sqG); intro gb139 hg w3 hbox hb; have n0_ := Aside0.mk (below_step sqB hb); have n1_ := Aside0.mk (hbox); have n2_ := Aside0.mk ((sqS hg : w.heap.size ≤ gb139)); have n3_ := Aside0.mk ((sqS hg : w.heap.size ≤ gb139)); clear HB; have HB := n0_; have BK139 := n1_; have GW139 := n2_; have GE139 := n3_; clear n0_ n1_ n2_ n3_; clear hb hbox hg))
  repeat (go_quiet (first | ((with_reducible refine gate_dst (N := 1) rfl ?_); (try (refine gate_guard (by rfl) ?_; dsimp only)); refine box_event ?hg (N := 1) ?hd (cs := #[.int .i64 a0_0, .slice A0_1 l0_1.length c0_1, .slice A0_2 l0_2.length c0_2]) (t := 34) ?hr ?_; (case hd => rfl); (case hg => rfl); (case hr => exact sqG); intro gb139 hg w3 hbox hb; have n0_ := Aside0.mk (below_step sqB hb); have n1_ := Aside0.mk (hbox); have n2_ := Aside0.mk ((sqS hg : w.heap.size ≤ gb139)); have n3_ := Aside0.mk ((sqS hg : w.heap.size ≤ gb139)); clear HB; have HB := n0_; have BK139 := n1_; have GW139 := n2_; have GE139 := n3_; clear n0_ n1_ n2_ n3_; clear hb hbox hg)); go_upto_region 1 with (first | ((with_reducible refine gate_dst (N := 1) rfl ?_); (try (refine gate_guard (by rfl) ?_; dsimp only)); refine box_event ?hg (N := 1) ?hd (cs := #[.int .i64 a0_0, .slice A0_1 l0_1.length c0_1, .slice A0_2 l0_2.length c0_2]) (t := 34) ?hr ?_; (case hd => rfl); (case hg => rfl); (case hr => exact sqG); intro gb139 hg w3 hbox hb; have n0_ := Aside0.mk (below_step sqB hb); have n1_ := Aside0.mk (hbox); have n2_ := Aside0.mk ((sqS hg : w.heap.size ≤ gb139)); have n3_ := Aside0.mk ((sqS hg : w.heap.size ≤ gb139)); clear HB; have HB := n0_; have BK139 := n1_; have GW139 := n2_; have GE139 := n3_; clear n0_ n1_ n2_ n3_; clear hb hbox hg)))
  (try simp only [Act.put, List.setIfInBounds_toArray, List.set_cons_zero, List.set_cons_succ])
  go_cut [26] (fun v26 wc => ∃ (kq : Nat) (x26_1 : Bool), v26 = .bool x26_1 ∧ Aside0 (impl_IsGraph.j0 kq x26_1 a0_0 l0_1 l0_2 = some r) ∧ Aside0 (kq ≤ k) ∧ Aside0 (wc.heap[gb139]? = some (.cells #[.int .i64 a0_0, (.slice A0_1 l0_1.length c0_1), (.slice A0_2 l0_2.length c0_2)] 34 (0, 0))) ∧ Aside0 (Below w.heap.size w wc))
  case first =>
    have H := HC2.out
    clear HC2
    by_cases c4 : a0_0 < 0
    · rw [if_pos c4] at H
      have c4b0 : decide (a0_0 < 0) = true := decide_eq_true c4
      clear c4
      (first | rw [c4b0] | (simp only [i64_w, i32_w]; rw [c4b0]) | skip)
      have H' := Aside0.mk H
      clear H
      have hcz5_0 : w3.cell? ⟨gb139, 0, none⟩ = some (.int .i64 a0_0) := (blk_cell BK139.out 0).trans rfl
      have hcz5_1 : w3.cell? ⟨gb139, 1, none⟩ = some (.slice A0_1 l0_1.length c0_1) := (blk_cell BK139.out 1).trans rfl
      have hcz5_2 : w3.cell? ⟨gb139, 2, none⟩ = some (.slice A0_2 l0_2.length c0_2) := (blk_cell BK139.out 2).trans rfl
      have hfz5_0 := blk_frozen BK139.out 0; have hfz5_1 := blk_frozen BK139.out 1; have hfz5_2 := blk_frozen BK139.out 2
      go_wp2
      repeat (go_quiet (fail); try go_wp2)
      go_meet
      case rel => exact ⟨_, (true), (sqD), H', ⟨by first | omega | exact Nat.le_refl _⟩, ⟨sqK BK139.out⟩, ⟨sqB⟩⟩
    · rw [if_neg c4] at H
      have c4b0 : decide (a0_0 < 0) = false := decide_eq_false c4
      clear c4
      (first | rw [c4b0] | (simp only [i64_w, i32_w]; rw [c4b0]) | skip)
      by_cases c6 : a0_0 > 6
      · rw [if_pos c6] at H
        have c6b0 : decide (6 < a0_0) = true := decide_eq_true c6
        clear c6
        have H' := Aside0.mk H
        clear H
        have hcz7_0 : w3.cell? ⟨gb139, 0, none⟩ = some (.int .i64 a0_0) := (blk_cell BK139.out 0).trans rfl
        have hcz7_1 : w3.cell? ⟨gb139, 1, none⟩ = some (.slice A0_1 l0_1.length c0_1) := (blk_cell BK139.out 1).trans rfl
        have hcz7_2 : w3.cell? ⟨gb139, 2, none⟩ = some (.slice A0_2 l0_2.length c0_2) := (blk_cell BK139.out 2).trans rfl
        have hfz7_0 := blk_frozen BK139.out 0; have hfz7_1 := blk_frozen BK139.out 1; have hfz7_2 := blk_frozen BK139.out 2
        go_wp2
        repeat (go_quiet (fail); try go_wp2)
        go_meet
        case rel => exact ⟨_, (true), (sqD), H', ⟨by first | omega | exact Nat.le_refl _⟩, ⟨sqK BK139.out⟩, ⟨sqB⟩⟩
      · rw [if_neg c6] at H
        have c6b0 : decide (6 < a0_0) = false := decide_eq_false c6
        clear c6
        by_cases c8 : (l0_1.length : Int) > 8
        · rw [if_pos c8] at H
          have c8b0 : decide (8 < (l0_1.length : Int)) = true := decide_eq_true c8
          have c8b1 : decide (8 < l0_1.length) = true := decide_eq_true (by omega)
          clear c8
          have H' := Aside0.mk H
          clear H
          have hcz9_0 : w3.cell? ⟨gb139, 0, none⟩ = some (.int .i64 a0_0) := (blk_cell BK139.out 0).trans rfl
          have hcz9_1 : w3.cell? ⟨gb139, 1, none⟩ = some (.slice A0_1 l0_1.length c0_1) := (blk_cell BK139.out 1).trans rfl
          have hcz9_2 : w3.cell? ⟨gb139, 2, none⟩ = some (.slice A0_2 l0_2.length c0_2) := (blk_cell BK139.out 2).trans rfl
          have hfz9_0 := blk_frozen BK139.out 0; have hfz9_1 := blk_frozen BK139.out 1; have hfz9_2 := blk_frozen BK139.out 2
          go_wp2
          repeat (go_quiet (fail); try go_wp2)
          go_meet
          case rel => exact ⟨_, (true), (sqD), H', ⟨by first | omega | exact Nat.le_refl _⟩, ⟨sqK BK139.out⟩, ⟨sqB⟩⟩
        · rw [if_neg c8] at H
          have c8b0 : decide (8 < (l0_1.length : Int)) = false := decide_eq_false c8
          have c8b1 : decide (8 < l0_1.length) = false := decide_eq_false (by omega)
          clear c8
          have H' := Aside0.mk H
          clear H
          have hcz10_0 : w3.cell? ⟨gb139, 0, none⟩ = some (.int .i64 a0_0) := (blk_cell BK139.out 0).trans rfl
          have hcz10_1 : w3.cell? ⟨gb139, 1, none⟩ = some (.slice A0_1 l0_1.length c0_1) := (blk_cell BK139.out 1).trans rfl
          have hcz10_2 : w3.cell? ⟨gb139, 2, none⟩ = some (.slice A0_2 l0_2.length c0_2) := (blk_cell BK139.out 2).trans rfl
          have hfz10_0 := blk_frozen BK139.out 0; have hfz10_1 := blk_frozen BK139.out 1; have hfz10_2 := blk_frozen BK139.out 2
          go_wp2
          repeat (go_quiet (fail); try go_wp2)
          go_meet
          case rel => exact ⟨_, (((l0_1.length : Int) != (l0_2.length : Int))), (sqD), H', ⟨by first | omega | exact Nat.le_refl _⟩, ⟨sqK BK139.out⟩, ⟨sqB⟩⟩
  case rest =>
    clear HC2
    try clear p2
    try clear c4
    try clear c4b0
    try clear c6
    try clear c6b0
    try clear c8
    try clear c8b0
    try clear c8b1
    try clear hcz10_0
    try clear hcz10_1
    try clear hcz10_2
    try clear hcz5_0
    try clear hcz5_1
    try clear hcz5_2
    try clear hcz7_0
    try clear hcz7_1
    try clear hcz7_2
    try clear hcz9_0
    try clear hcz9_1
    try clear hcz9_2
    try clear hfz10_0
    try clear hfz10_1
    try clear hfz10_2
    try clear hfz5_0
    try clear hfz5_1
    try clear hfz5_2
    try clear hfz7_0
    try clear hfz7_1
    try clear hfz7_2
    try clear hfz9_0
    try clear hfz9_1
    try clear hfz9_2
    obtain ⟨kq, x26_1, rfl, HA, HJ1, BK139, HB⟩ := hcut
    cases kq with
    | zero => exact absurd HA.out (by simp [impl_IsGraph.j0])
    | succ kj1 =>
      have H := HA.out
      clear HA
      simp only [impl_IsGraph.j0] at H
      by_cases c11 : x26_1 = true
      · subst c11
        have H1 : (some false) = some r := by rw [if_pos rfl] at H; exact H
        clear H
        have H := H1
        clear H1
        obtain rfl := Option.some.inj H
        go_wp2
        repeat (go_quiet (fail); try go_wp2)
        go_ret
        exact ⟨sqE, sqB⟩
      · replace c11 := Bool.eq_false_iff.mpr c11
        subst c11
        have H1 : (impl_IsGraph.l0 kj1 (l0_1.length : Int) 0 a0_0 l0_1 l0_2) = some r := by rw [if_neg (show ¬ (false = true) by decide)] at H; exact H
        clear H
        have H := H1
        clear H1
        have H' := Aside0.mk H
        clear H
        have hcz12_0 : wc.cell? ⟨gb139, 0, none⟩ = some (.int .i64 a0_0) := (blk_cell BK139.out 0).trans rfl
        have hcz12_1 : wc.cell? ⟨gb139, 1, none⟩ = some (.slice A0_1 l0_1.length c0_1) := (blk_cell BK139.out 1).trans rfl
        have hcz12_2 : wc.cell? ⟨gb139, 2, none⟩ = some (.slice A0_2 l0_2.length c0_2) := (blk_cell BK139.out 2).trans rfl
        have hfz12_0 := blk_frozen BK139.out 0; have hfz12_1 := blk_frozen BK139.out 1; have hfz12_2 := blk_frozen BK139.out 2
        go_wp2
        repeat (go_quiet (fail); try go_wp2)
        go_loopg [30] kj1 (fun kq v30 w' => ∃ (x30_2 : Int), v30 = .int .i64 x30_2 ∧ Aside0 (impl_IsGraph.l0 kq (l0_1.length : Int) x30_2 a0_0 l0_1 l0_2 = some r) ∧ Aside0 (kq ≤ kj1) ∧ Aside0 (w'.heap[gb139]? = some (.cells #[.int .i64 a0_0, (.slice A0_1 l0_1.length c0_1), (.slice A0_2 l0_2.length c0_2)] 34 (0, 0))) ∧ Aside0 (Below w.heap.size w w'))
        case atStart => exact ⟨(0), (sqD), H', ⟨Nat.le_refl _⟩, ⟨sqK BK139.out⟩, ⟨sqB⟩⟩
        case round =>
          clear H'
          try clear c1
          try clear p2
          try clear c4
          try clear c4b0
          try clear c6
          try clear c6b0
          try clear c8
          try clear c8b0
          try clear c8b1
          try clear c11
          try clear hcz10_0
          try clear hcz10_1
          try clear hcz10_2
          try clear hcz12_0
          try clear hcz12_1
          try clear hcz12_2
          try clear hcz5_0
          try clear hcz5_1
          try clear hcz5_2
          try clear hcz7_0
          try clear hcz7_1
          try clear hcz7_2
          try clear hcz9_0
          try clear hcz9_1
          try clear hcz9_2
          try clear hfz10_0
          try clear hfz10_1
          try clear hfz10_2
          try clear hfz12_0
          try clear hfz12_1
          try clear hfz12_2
          try clear hfz5_0
          try clear hfz5_1
          try clear hfz5_2
          try clear hfz7_0
          try clear hfz7_1
          try clear hfz7_2
          try clear hfz9_0
          try clear hfz9_1
          try clear hfz9_2
          try clear p2
          obtain ⟨x30_2, rfl, HA, HK2, BK139, HB⟩ := hrel
          cases gk with
          | zero => exact absurd HA.out (by simp [impl_IsGraph.l0])
          | succ k2 =>
            have H := HA.out
            clear HA
            simp only [impl_IsGraph.l0] at H
            by_cases c13 : x30_2 < (l0_1.length : Int)
            · rw [if_pos c13] at H
              have c13b0 : decide (x30_2 < (l0_1.length : Int)) = true := decide_eq_true c13
              clear c13
              by_cases c14 : 0 ≤ x30_2
              · rw [if_pos c14] at H
                have c14b0 : decide (0 ≤ x30_2) = true := decide_eq_true c14
                clear c14
                by_cases c15 : x30_2 < (l0_1.length : Int)
                · rw [if_pos c15] at H
                  have c15b0 : decide (x30_2 < (l0_1.length : Int)) = true := decide_eq_true c15
                  clear c15
                  by_cases c16 : (rd l0_1 x30_2) < 0
                  · rw [if_pos c16] at H
                    have c16b0 : decide ((rd l0_1 x30_2) < 0) = true := decide_eq_true c16
                    clear c16
                    obtain rfl := Option.some.inj H
                    have hcz17_0 : wr.cell? ⟨gb139, 0, none⟩ = some (.int .i64 a0_0) := (blk_cell BK139.out 0).trans rfl
                    have hcz17_1 : wr.cell? ⟨gb139, 1, none⟩ = some (.slice A0_1 l0_1.length c0_1) := (blk_cell BK139.out 1).trans rfl
                    have hcz17_2 : wr.cell? ⟨gb139, 2, none⟩ = some (.slice A0_2 l0_2.length c0_2) := (blk_cell BK139.out 2).trans rfl
                    have hfz17_0 := blk_frozen BK139.out 0; have hfz17_1 := blk_frozen BK139.out 1; have hfz17_2 := blk_frozen BK139.out 2
                    have p140 : 0 ≤ (x30_2 : Int) := of_decide_eq_true sqA
                    have q140 : x30_2 < (l0_1.length : Int) := of_decide_eq_true sqA
                    obtain ⟨ad140, e140, hx140_0⟩ := Kd.at_int HR0_1.out x30_2 p140 q140
                    cases e140
                    replace hx140_0 := (HB.out.cell (World.block_lt_of_cell? w _ hx140_0)).trans hx140_0
                    replace p140 := eq_true p140
                    replace q140 := eq_true q140
                    go_wp2
                    repeat (go_quiet (fail); try go_wp2)
                    go_ret
                    exact ⟨sqE, sqB⟩
                  · rw [if_neg c16] at H
                    have c16b0 : decide ((rd l0_1 x30_2) < 0) = false := decide_eq_false c16
                    clear c16
                    by_cases c18 : (rd l0_1 x30_2) ≥ a0_0
                    · rw [if_pos c18] at H
                      have c18b0 : decide (a0_0 ≤ (rd l0_1 x30_2)) = true := decide_eq_true c18
                      clear c18
                      obtain rfl := Option.some.inj H
                      have hcz19_0 : wr.cell? ⟨gb139, 0, none⟩ = some (.int .i64 a0_0) := (blk_cell BK139.out 0).trans rfl
                      have hcz19_1 : wr.cell? ⟨gb139, 1, none⟩ = some (.slice A0_1 l0_1.length c0_1) := (blk_cell BK139.out 1).trans rfl
                      have hcz19_2 : wr.cell? ⟨gb139, 2, none⟩ = some (.slice A0_2 l0_2.length c0_2) := (blk_cell BK139.out 2).trans rfl
                      have hfz19_0 := blk_frozen BK139.out 0; have hfz19_1 := blk_frozen BK139.out 1; have hfz19_2 := blk_frozen BK139.out 2
                      have p140 : 0 ≤ (x30_2 : Int) := of_decide_eq_true sqA
                      have q140 : x30_2 < (l0_1.length : Int) := of_decide_eq_true sqA
                      obtain ⟨ad140, e140, hx140_0⟩ := Kd.at_int HR0_1.out x30_2 p140 q140
                      cases e140
                      replace hx140_0 := (HB.out.cell (World.block_lt_of_cell? w _ hx140_0)).trans hx140_0
                      replace p140 := eq_true p140
                      replace q140 := eq_true q140
                      have p141 : 0 ≤ (x30_2 : Int) := of_decide_eq_true sqA
                      have q141 : x30_2 < (l0_1.length : Int) := of_decide_eq_true sqA
                      obtain ⟨ad141, e141, hx141_0⟩ := Kd.at_int HR0_1.out x30_2 p141 q141
                      obtain rfl : ad140 = ad141 := (by injection e141)
                      replace hx141_0 := (HB.out.cell (World.block_lt_of_cell? w _ hx141_0)).trans hx141_0
                      replace p141 := eq_true p141
                      replace q141 := eq_true q141
                      go_wp2
                      repeat (go_quiet (fail); try go_wp2)
                      go_ret
                      exact ⟨sqE, sqB⟩
                    · rw [if_neg c18] at H
                      have c18b0 : decide (a0_0 ≤ (rd l0_1 x30_2)) = false := decide_eq_false c18
                      clear c18
                      by_cases c20 : x30_2 < (l0_2.length : Int)
                      · rw [if_pos c20] at H
                        have c20b0 : decide (x30_2 < (l0_2.length : Int)) = true := decide_eq_true c20
                        clear c20
                        by_cases c21 : (rd l0_2 x30_2) < 0
                        · rw [if_pos c21] at H
                          have c21b0 : decide ((rd l0_2 x30_2) < 0) = true := decide_eq_true c21
                          clear c21
                          obtain rfl := Option.some.inj H
                          have hcz22_0 : wr.cell? ⟨gb139, 0, none⟩ = some (.int .i64 a0_0) := (blk_cell BK139.out 0).trans rfl
                          have hcz22_1 : wr.cell? ⟨gb139, 1, none⟩ = some (.slice A0_1 l0_1.length c0_1) := (blk_cell BK139.out 1).trans rfl
                          have hcz22_2 : wr.cell? ⟨gb139, 2, none⟩ = some (.slice A0_2 l0_2.length c0_2) := (blk_cell BK139.out 2).trans rfl
                          have hfz22_0 := blk_frozen BK139.out 0; have hfz22_1 := blk_frozen BK139.out 1; have hfz22_2 := blk_frozen BK139.out 2
                          have p140 : 0 ≤ (x30_2 : Int) := of_decide_eq_true sqA
                          have q140 : x30_2 < (l0_1.length : Int) := of_decide_eq_true sqA
                          obtain ⟨ad140, e140, hx140_0⟩ := Kd.at_int HR0_1.out x30_2 p140 q140
                          cases e140
                          replace hx140_0 := (HB.out.cell (World.block_lt_of_cell? w _ hx140_0)).trans hx140_0
                          replace p140 := eq_true p140
                          replace q140 := eq_true q140
                          have p141 : 0 ≤ (x30_2 : Int) := of_decide_eq_true sqA
                          have q141 : x30_2 < (l0_1.length : Int) := of_decide_eq_true sqA
                          obtain ⟨ad141, e141, hx141_0⟩ := Kd.at_int HR0_1.out x30_2 p141 q141
                          obtain rfl : ad140 = ad141 := (by injection e141)
                          replace hx141_0 := (HB.out.cell (World.block_lt_of_cell? w _ hx141_0)).trans hx141_0
                          replace p141 := eq_true p141
                          replace q141 := eq_true q141
                          have p142 : 0 ≤ (x30_2 : Int) := of_decide_eq_true sqA
                          have q142 : x30_2 < (l0_2.length : Int) := of_decide_eq_true sqA
                          obtain ⟨ad142, e142, hx142_0⟩ := Kd.at_int HR0_2.out x30_2 p142 q142
                          cases e142
                          replace hx142_0 := (HB.out.cell (World.block_lt_of_cell? w _ hx142_0)).trans hx142_0
                          replace p142 := eq_true p142
                          replace q142 := eq_true q142
                          go_wp2
                          repeat (go_quiet (fail); try go_wp2)
                          go_ret
                          exact ⟨sqE, sqB⟩
                        · rw [if_neg c21] at H
                          have c21b0 : decide ((rd l0_2 x30_2) < 0) = false := decide_eq_false c21
                          clear c21
                          by_cases c23 : (rd l0_2 x30_2) ≥ a0_0
                          · rw [if_pos c23] at H
                            have c23b0 : decide (a0_0 ≤ (rd l0_2 x30_2)) = true := decide_eq_true c23
                            clear c23
                            obtain rfl := Option.some.inj H
                            have hcz24_0 : wr.cell? ⟨gb139, 0, none⟩ = some (.int .i64 a0_0) := (blk_cell BK139.out 0).trans rfl
                            have hcz24_1 : wr.cell? ⟨gb139, 1, none⟩ = some (.slice A0_1 l0_1.length c0_1) := (blk_cell BK139.out 1).trans rfl
                            have hcz24_2 : wr.cell? ⟨gb139, 2, none⟩ = some (.slice A0_2 l0_2.length c0_2) := (blk_cell BK139.out 2).trans rfl
                            have hfz24_0 := blk_frozen BK139.out 0; have hfz24_1 := blk_frozen BK139.out 1; have hfz24_2 := blk_frozen BK139.out 2
                            have p140 : 0 ≤ (x30_2 : Int) := of_decide_eq_true sqA
                            have q140 : x30_2 < (l0_1.length : Int) := of_decide_eq_true sqA
                            obtain ⟨ad140, e140, hx140_0⟩ := Kd.at_int HR0_1.out x30_2 p140 q140
                            cases e140
                            replace hx140_0 := (HB.out.cell (World.block_lt_of_cell? w _ hx140_0)).trans hx140_0
                            replace p140 := eq_true p140
                            replace q140 := eq_true q140
                            have p141 : 0 ≤ (x30_2 : Int) := of_decide_eq_true sqA
                            have q141 : x30_2 < (l0_1.length : Int) := of_decide_eq_true sqA
                            obtain ⟨ad141, e141, hx141_0⟩ := Kd.at_int HR0_1.out x30_2 p141 q141
                            obtain rfl : ad140 = ad141 := (by injection e141)
                            replace hx141_0 := (HB.out.cell (World.block_lt_of_cell? w _ hx141_0)).trans hx141_0
                            replace p141 := eq_true p141
                            replace q141 := eq_true q141
                            have p142 : 0 ≤ (x30_2 : Int) := of_decide_eq_true sqA
                            have q142 : x30_2 < (l0_2.length : Int) := of_decide_eq_true sqA
                            obtain ⟨ad142, e142, hx142_0⟩ := Kd.at_int HR0_2.out x30_2 p142 q142
                            cases e142
                            replace hx142_0 := (HB.out.cell (World.block_lt_of_cell? w _ hx142_0)).trans hx142_0
                            replace p142 := eq_true p142
                            replace q142 := eq_true q142
                            have p143 : 0 ≤ (x30_2 : Int) := of_decide_eq_true sqA
                            have q143 : x30_2 < (l0_2.length : Int) := of_decide_eq_true sqA
                            obtain ⟨ad143, e143, hx143_0⟩ := Kd.at_int HR0_2.out x30_2 p143 q143
                            obtain rfl : ad142 = ad143 := (by injection e143)
                            replace hx143_0 := (HB.out.cell (World.block_lt_of_cell? w _ hx143_0)).trans hx143_0
                            replace p143 := eq_true p143
                            replace q143 := eq_true q143
                            go_wp2
                            repeat (go_quiet (fail); try go_wp2)
                            go_ret
                            exact ⟨sqE, sqB⟩
                          · rw [if_neg c23] at H
                            have c23b0 : decide (a0_0 ≤ (rd l0_2 x30_2)) = false := decide_eq_false c23
                            clear c23
                            have H' := Aside0.mk H
                            clear H
                            have hcz25_0 : wr.cell? ⟨gb139, 0, none⟩ = some (.int .i64 a0_0) := (blk_cell BK139.out 0).trans rfl
                            have hcz25_1 : wr.cell? ⟨gb139, 1, none⟩ = some (.slice A0_1 l0_1.length c0_1) := (blk_cell BK139.out 1).trans rfl
                            have hcz25_2 : wr.cell? ⟨gb139, 2, none⟩ = some (.slice A0_2 l0_2.length c0_2) := (blk_cell BK139.out 2).trans rfl
                            have hfz25_0 := blk_frozen BK139.out 0; have hfz25_1 := blk_frozen BK139.out 1; have hfz25_2 := blk_frozen BK139.out 2
                            have p140 : 0 ≤ (x30_2 : Int) := of_decide_eq_true sqA
                            have q140 : x30_2 < (l0_1.length : Int) := of_decide_eq_true sqA
                            obtain ⟨ad140, e140, hx140_0⟩ := Kd.at_int HR0_1.out x30_2 p140 q140
                            cases e140
                            replace hx140_0 := (HB.out.cell (World.block_lt_of_cell? w _ hx140_0)).trans hx140_0
                            replace p140 := eq_true p140
                            replace q140 := eq_true q140
                            have p141 : 0 ≤ (x30_2 : Int) := of_decide_eq_true sqA
                            have q141 : x30_2 < (l0_1.length : Int) := of_decide_eq_true sqA
                            obtain ⟨ad141, e141, hx141_0⟩ := Kd.at_int HR0_1.out x30_2 p141 q141
                            obtain rfl : ad140 = ad141 := (by injection e141)
                            replace hx141_0 := (HB.out.cell (World.block_lt_of_cell? w _ hx141_0)).trans hx141_0
                            replace p141 := eq_true p141
                            replace q141 := eq_true q141
                            have p142 : 0 ≤ (x30_2 : Int) := of_decide_eq_true sqA
                            have q142 : x30_2 < (l0_2.length : Int) := of_decide_eq_true sqA
                            obtain ⟨ad142, e142, hx142_0⟩ := Kd.at_int HR0_2.out x30_2 p142 q142
                            cases e142
                            replace hx142_0 := (HB.out.cell (World.block_lt_of_cell? w _ hx142_0)).trans hx142_0
                            replace p142 := eq_true p142
                            replace q142 := eq_true q142
                            have p143 : 0 ≤ (x30_2 : Int) := of_decide_eq_true sqA
                            have q143 : x30_2 < (l0_2.length : Int) := of_decide_eq_true sqA
                            obtain ⟨ad143, e143, hx143_0⟩ := Kd.at_int HR0_2.out x30_2 p143 q143
                            obtain rfl : ad142 = ad143 := (by injection e143)
                            replace hx143_0 := (HB.out.cell (World.block_lt_of_cell? w _ hx143_0)).trans hx143_0
                            replace p143 := eq_true p143
                            replace q143 := eq_true q143
                            go_wp2
                            repeat (go_quiet (fail); try go_wp2)
                            go_roundg k2
                            case measure => have := HJ1.out; have := HK2.out; omega
                            case rel => exact ⟨(wrap64 (x30_2 + 1)), (sqD), H', ⟨by have := HJ1.out; have := HK2.out; omega⟩, ⟨sqK BK139.out⟩, ⟨sqB⟩⟩
                      · rw [if_neg c20] at H
                        exact absurd H (by simp)
                · rw [if_neg c15] at H
                  exact absurd H (by simp)
              · rw [if_neg c14] at H
                exact absurd H (by simp)
            · rw [if_neg c13] at H
              have c13b0 : decide (x30_2 < (l0_1.length : Int)) = false := decide_eq_false c13
              clear c13
              obtain rfl := Option.some.inj H
              go_wp2
              repeat (go_quiet (fail); try go_wp2)
              go_ret
              exact ⟨sqE, sqB⟩

def laws_eqGraph.f (k : Nat) (a0_0 : Int) (l0_1 : List Int) (l0_2 : List Int) (a1_0 : Int) (l1_1 : List Int) (l1_2 : List Int) : Option (Bool) := if a0_0 = a1_0 then ((laws_eqIntS.f k l0_1 l1_1).bind fun t148 => (if t148 = true then ((laws_eqIntS.f k l0_2 l1_2).bind fun t149 => (if t149 = true then (some true) else (some false))) else (some false))) else (some false)
set_option maxHeartbeats 8000000 in
set_option maxRecDepth 100000 in
theorem laws_eqGraph.calls (k : Nat) (a0_0 : Int) (A0_1 : Option Addr) (c0_1 : Nat) (l0_1 : List Int) (A0_2 : Option Addr) (c0_2 : Nat) (l0_2 : List Int) (a1_0 : Int) (A1_1 : Option Addr) (c1_1 : Nat) (l1_1 : List Int) (A1_2 : Option Addr) (c1_2 : Nat) (l1_2 : List Int) (r : Bool) (w : World) (hr0_1 : Kd.C (Kd.int .i64) w A0_1 l0_1.length l0_1) (hc0_1 : l0_1.length ≤ c0_1) (hr0_2 : Kd.C (Kd.int .i64) w A0_2 l0_2.length l0_2) (hc0_2 : l0_2.length ≤ c0_2) (hr1_1 : Kd.C (Kd.int .i64) w A1_1 l1_1.length l1_1) (hc1_1 : l1_1.length ≤ c1_1) (hr1_2 : Kd.C (Kd.int .i64) w A1_2 l1_2.length l1_2) (hc1_2 : l1_2.length ≤ c1_2) (h : laws_eqGraph.f k a0_0 l0_1 l0_2 a1_0 l1_1 l1_2 = some r) :
    Calls Try.prog 20 #[.agg #[.int .i64 a0_0, .slice A0_1 l0_1.length c0_1, .slice A0_2 l0_2.length c0_2], .agg #[.int .i64 a1_0, .slice A1_1 l1_1.length c1_1, .slice A1_2 l1_2.length c1_2]] w fun e w' => e = .returned (.bool r) ∧ Below w.heap.size w w' := by
  have hu34 := Try.underlying34
  have HR0_1 := Aside0.mk hr0_1
  have HC0_1 := Aside0.mk hc0_1
  clear hr0_1 hc0_1
  have HR0_2 := Aside0.mk hr0_2
  have HC0_2 := Aside0.mk hc0_2
  clear hr0_2 hc0_2
  have HR1_1 := Aside0.mk hr1_1
  have HC1_1 := Aside0.mk hc1_1
  clear hr1_1 hc1_1
  have HR1_2 := Aside0.mk hr1_2
  have HC1_2 := Aside0.mk hc1_2
  clear hr1_2 hc1_2
  have HB := Aside0.mk (Below.refl w.heap.size w)
  have H : (if a0_0 = a1_0 then ((laws_eqIntS.f k l0_1 l1_1).bind fun t148 => (if t148 = true then ((laws_eqIntS.f k l0_2 l1_2).bind fun t149 => (if t149 = true then (some true) else (some false))) else (some false))) else (some false)) = some r := h
  clear h
  by_cases c3 : a0_0 = a1_0
  · rw [if_pos c3] at H
    have c3b0 : (a0_0 == a1_0) = true := beq_iff_eq.mpr c3
    have c3b1 : (a0_0 != a1_0) = false := bne_eq_false_iff_eq.mpr c3
    clear c3
    replace H := Option.bind_eq_some_iff.mp H
    obtain ⟨t148, A40, H⟩ := H
    replace H : (if t148 = true then ((laws_eqIntS.f k l0_2 l1_2).bind fun t149 => (if t149 = true then (some true) else (some false))) else (some false)) = some r := H
    have A4 := Aside0.mk A40
    clear A40
    by_cases c5 : t148 = true
    · subst c5
      have H1 : ((laws_eqIntS.f k l0_2 l1_2).bind fun t149 => (if t149 = true then (some true) else (some false))) = some r := by rw [if_pos rfl] at H; exact H
      clear H
      have H := H1
      clear H1
      replace H := Option.bind_eq_some_iff.mp H
      obtain ⟨t149, A60, H⟩ := H
      replace H : (if t149 = true then (some true) else (some false)) = some r := H
      have A6 := Aside0.mk A60
      clear A60
      by_cases c7 : t149 = true
      · subst c7
        have H1 : (some true) = some r := by rw [if_pos rfl] at H; exact H
        clear H
        have H := H1
        clear H1
        obtain rfl := Option.some.inj H
        go_enter Try.func20, Try.ntmps20
        go_wp2_with (first | ((with_reducible refine gate_dst (N := 2) rfl ?_); refine box_event ?hg (N := 2) ?hd (cs := #[.int .i64 a0_0, .slice A0_1 l0_1.length c0_1, .slice A0_2 l0_2.length c0_2]) (t := 34) ?hr ?_; (case hd => rfl); (case hg => rfl); (case hr => exact sqG); intro gb146 hg w8 hbox hb; have n0_ := Aside0.mk (below_step sqB hb); have n1_ := Aside0.mk (hbox); have n2_ := Aside0.mk ((sqS hg : w.heap.size ≤ gb146)); have n3_ := Aside0.mk ((sqS hg : w.heap.size ≤ gb146)); clear HB; have HB := n0_; have BK146 := n1_; have GW146 := n2_; have GE146 := n3_; clear n0_ n1_ n2_ n3_; clear hb hbox hg) | ((with_reducible refine gate_dst (N := 3) rfl ?_); refine box_event ?hg (N := 3) ?hd (cs := #[.int .i64 a1_0, .slice A1_1 l1_1.length c1_1, .slice A1_2 l1_2.length c1_2]) (t := 34) ?hr ?_; (case hd => rfl); (case hg => rfl); (case hr => exact sqG); intro gb147 hg w9 hbox hb; have n0_ := Aside0.mk (blk_below (g := gb146) (o := .cells #[.int .i64 a0_0, .slice A0_1 l0_1.length c0_1, .slice A0_2 l0_2.length c0_2] 34 (0, 0)) (sqK BK146.out) hb); have n1_ := Aside0.mk (below_step sqB hb); have n2_ := Aside0.mk (hbox); have n3_ := Aside0.mk ((sqS hg : w.heap.size ≤ gb147)); have n4_ := Aside0.mk ((sqS hg : w.heap.size ≤ gb147)); have n5_ := Aside0.mk ((by rw [hg]; exact Nat.ne_of_lt (blk_lt (g := gb146) (o := .cells #[.int .i64 a0_0, .slice A0_1 l0_1.length c0_1, .slice A0_2 l0_2.length c0_2] 34 (0, 0)) (sqK BK146.out)) : gb146 ≠ gb147)); have n6_ := Aside0.mk ((by rw [hg]; exact Nat.ne_of_gt (blk_lt (g := gb146) (o := .cells #[.int .i64 a0_0, .slice A0_1 l0_1.length c0_1, .slice A0_2 l0_2.length c0_2] 34 (0, 0)) (sqK BK146.out)) : gb147 ≠ gb146)); clear BK146; clear HB; have BK146 := n0_; have HB := n1_; have BK147 := n2_; have GW147 := n3_; have GE147 := n4_; have NB146_147 := n5_; have NB147_146 := n6_; clear n0_ n1_ n2_ n3_ n4_ n5_ n6_; clear hb hbox hg; have hnb10 := NB146_147.out; have hnc10 := NB147_146.out; have hcz11_0 : w9.cell? ⟨gb146, 0, none⟩ = some (.int .i64 a0_0) := (blk_cell BK146.out 0).trans rfl; have hcz11_1 : w9.cell? ⟨gb146, 1, none⟩ = some (.slice A0_1 l0_1.length c0_1) := (blk_cell BK146.out 1).trans rfl; have hcz11_2 : w9.cell? ⟨gb146, 2, none⟩ = some (.slice A0_2 l0_2.length c0_2) := (blk_cell BK146.out 2).trans rfl; have hfz11_0 := blk_frozen BK146.out 0; have hfz11_1 := blk_frozen BK146.out 1; have hfz11_2 := blk_frozen BK146.out 2; have hcz12_0 : w9.cell? ⟨gb147, 0, none⟩ = some (.int .i64 a1_0) := (blk_cell BK147.out 0).trans rfl; have hcz12_1 : w9.cell? ⟨gb147, 1, none⟩ = some (.slice A1_1 l1_1.length c1_1) := (blk_cell BK147.out 1).trans rfl; have hcz12_2 : w9.cell? ⟨gb147, 2, none⟩ = some (.slice A1_2 l1_2.length c1_2) := (blk_cell BK147.out 2).trans rfl; have hfz12_0 := blk_frozen BK147.out 0; have hfz12_1 := blk_frozen BK147.out 1; have hfz12_2 := blk_frozen BK147.out 2) | ((with_reducible refine gate_callee (f := 41) rfl ?_); refine goesL_ (some 14) rfl rfl Try.func41 (by kernel_rfl) rfl #[.slice A0_1 l0_1.length c0_1, .slice A1_1 l1_1.length c1_1] rfl sqM ?_; (with_reducible refine (laws_eqIntS.calls k _ _ l0_1 _ _ l1_1 true _ ?side1 ?side2 ?side3 ?side4 A4.out).mono ?_); (case side1 => exact sqC (Kd.C_below HR0_1.out HB.out)); (case side2 => exact HC0_1.out); (case side3 => exact sqC (Kd.C_below HR1_1.out HB.out)); (case side4 => exact HC1_1.out); rintro e w' ⟨rfl, ⟨nd, rfl⟩⟩; refine ⟨_, rfl, ?_⟩) | ((with_reducible refine gate_callee (f := 41) rfl ?_); refine goesL_ (some 20) rfl rfl Try.func41 (by kernel_rfl) rfl #[.slice A0_2 l0_2.length c0_2, .slice A1_2 l1_2.length c1_2] rfl sqM ?_; (with_reducible refine (laws_eqIntS.calls k _ _ l0_2 _ _ l1_2 true _ ?side1 ?side2 ?side3 ?side4 A6.out).mono ?_); (case side1 => exact sqC (Kd.C_below HR0_2.out sqB)); (case side2 => exact HC0_2.out); (case side3 => exact sqC (Kd.C_below HR1_2.out sqB)); (case side4 => exact HC1_2.out); rintro e w' ⟨rfl, ⟨nd, rfl⟩⟩; refine ⟨_, rfl, ?_⟩))
        go_ret
        exact ⟨sqE, sqB⟩
      · replace c7 := Bool.eq_false_iff.mpr c7
        subst c7
        have H1 : (some false) = some r := by rw [if_neg (show ¬ (false = true) by decide)] at H; exact H
        clear H
        have H := H1
        clear H1
        obtain rfl := Option.some.inj H
        go_enter Try.func20, Try.ntmps20
        go_wp2_with (first | ((with_reducible refine gate_dst (N := 2) rfl ?_); refine box_event ?hg (N := 2) ?hd (cs := #[.int .i64 a0_0, .slice A0_1 l0_1.length c0_1, .slice A0_2 l0_2.length c0_2]) (t := 34) ?hr ?_; (case hd => rfl); (case hg => rfl); (case hr => exact sqG); intro gb146 hg w13 hbox hb; have n0_ := Aside0.mk (below_step sqB hb); have n1_ := Aside0.mk (hbox); have n2_ := Aside0.mk ((sqS hg : w.heap.size ≤ gb146)); have n3_ := Aside0.mk ((sqS hg : w.heap.size ≤ gb146)); clear HB; have HB := n0_; have BK146 := n1_; have GW146 := n2_; have GE146 := n3_; clear n0_ n1_ n2_ n3_; clear hb hbox hg) | ((with_reducible refine gate_dst (N := 3) rfl ?_); refine box_event ?hg (N := 3) ?hd (cs := #[.int .i64 a1_0, .slice A1_1 l1_1.length c1_1, .slice A1_2 l1_2.length c1_2]) (t := 34) ?hr ?_; (case hd => rfl); (case hg => rfl); (case hr => exact sqG); intro gb147 hg w14 hbox hb; have n0_ := Aside0.mk (blk_below (g := gb146) (o := .cells #[.int .i64 a0_0, .slice A0_1 l0_1.length c0_1, .slice A0_2 l0_2.length c0_2] 34 (0, 0)) (sqK BK146.out) hb); have n1_ := Aside0.mk (below_step sqB hb); have n2_ := Aside0.mk (hbox); have n3_ := Aside0.mk ((sqS hg : w.heap.size ≤ gb147)); have n4_ := Aside0.mk ((sqS hg : w.heap.size ≤ gb147)); have n5_ := Aside0.mk ((by rw [hg]; exact Nat.ne_of_lt (blk_lt (g := gb146) (o := .cells #[.int .i64 a0_0, .slice A0_1 l0_1.length c0_1, .slice A0_2 l0_2.length c0_2] 34 (0, 0)) (sqK BK146.out)) : gb146 ≠ gb147)); have n6_ := Aside0.mk ((by rw [hg]; exact Nat.ne_of_gt (blk_lt (g := gb146) (o := .cells #[.int .i64 a0_0, .slice A0_1 l0_1.length c0_1, .slice A0_2 l0_2.length c0_2] 34 (0, 0)) (sqK BK146.out)) : gb147 ≠ gb146)); clear BK146; clear HB; have BK146 := n0_; have HB := n1_; have BK147 := n2_; have GW147 := n3_; have GE147 := n4_; have NB146_147 := n5_; have NB147_146 := n6_; clear n0_ n1_ n2_ n3_ n4_ n5_ n6_; clear hb hbox hg; have hnb15 := NB146_147.out; have hnc15 := NB147_146.out; have hcz16_0 : w14.cell? ⟨gb146, 0, none⟩ = some (.int .i64 a0_0) := (blk_cell BK146.out 0).trans rfl; have hcz16_1 : w14.cell? ⟨gb146, 1, none⟩ = some (.slice A0_1 l0_1.length c0_1) := (blk_cell BK146.out 1).trans rfl; have hcz16_2 : w14.cell? ⟨gb146, 2, none⟩ = some (.slice A0_2 l0_2.length c0_2) := (blk_cell BK146.out 2).trans rfl; have hfz16_0 := blk_frozen BK146.out 0; have hfz16_1 := blk_frozen BK146.out 1; have hfz16_2 := blk_frozen BK146.out 2; have hcz17_0 : w14.cell? ⟨gb147, 0, none⟩ = some (.int .i64 a1_0) := (blk_cell BK147.out 0).trans rfl; have hcz17_1 : w14.cell? ⟨gb147, 1, none⟩ = some (.slice A1_1 l1_1.length c1_1) := (blk_cell BK147.out 1).trans rfl; have hcz17_2 : w14.cell? ⟨gb147, 2, none⟩ = some (.slice A1_2 l1_2.length c1_2) := (blk_cell BK147.out 2).trans rfl; have hfz17_0 := blk_frozen BK147.out 0; have hfz17_1 := blk_frozen BK147.out 1; have hfz17_2 := blk_frozen BK147.out 2) | ((with_reducible refine gate_callee (f := 41) rfl ?_); refine goesL_ (some 14) rfl rfl Try.func41 (by kernel_rfl) rfl #[.slice A0_1 l0_1.length c0_1, .slice A1_1 l1_1.length c1_1] rfl sqM ?_; (with_reducible refine (laws_eqIntS.calls k _ _ l0_1 _ _ l1_1 true _ ?side1 ?side2 ?side3 ?side4 A4.out).mono ?_); (case side1 => exact sqC (Kd.C_below HR0_1.out HB.out)); (case side2 => exact HC0_1.out); (case side3 => exact sqC (Kd.C_below HR1_1.out HB.out)); (case side4 => exact HC1_1.out); rintro e w' ⟨rfl, ⟨nd, rfl⟩⟩; refine ⟨_, rfl, ?_⟩) | ((with_reducible refine gate_callee (f := 41) rfl ?_); refine goesL_ (some 20) rfl rfl Try.func41 (by kernel_rfl) rfl #[.slice A0_2 l0_2.length c0_2, .slice A1_2 l1_2.length c1_2] rfl sqM ?_; (with_reducible refine (laws_eqIntS.calls k _ _ l0_2 _ _ l1_2 false _ ?side1 ?side2 ?side3 ?side4 A6.out).mono ?_); (case side1 => exact sqC (Kd.C_below HR0_2.out sqB)); (case side2 => exact HC0_2.out); (case side3 => exact sqC (Kd.C_below HR1_2.out sqB)); (case side4 => exact HC1_2.out); rintro e w' ⟨rfl, ⟨nd, rfl⟩⟩; refine ⟨_, rfl, ?_⟩))
        go_ret
        exact ⟨sqE, sqB⟩
    · replace c5 := Bool.eq_false_iff.mpr c5
      subst c5
      have H1 : (some false) = some r := by rw [if_neg (show ¬ (false = true) by decide)] at H; exact H
      clear H
      have H := H1
      clear H1
      obtain rfl := Option.some.inj H
      go_enter Try.func20, Try.ntmps20
      go_wp2_with (first | ((with_reducible refine gate_dst (N := 2) rfl ?_); refine box_event ?hg (N := 2) ?hd (cs := #[.int .i64 a0_0, .slice A0_1 l0_1.length c0_1, .slice A0_2 l0_2.length c0_2]) (t := 34) ?hr ?_; (case hd => rfl); (case hg => rfl); (case hr => exact sqG); intro gb146 hg w18 hbox hb; have n0_ := Aside0.mk (below_step sqB hb); have n1_ := Aside0.mk (hbox); have n2_ := Aside0.mk ((sqS hg : w.heap.size ≤ gb146)); have n3_ := Aside0.mk ((sqS hg : w.heap.size ≤ gb146)); clear HB; have HB := n0_; have BK146 := n1_; have GW146 := n2_; have GE146 := n3_; clear n0_ n1_ n2_ n3_; clear hb hbox hg) | ((with_reducible refine gate_dst (N := 3) rfl ?_); refine box_event ?hg (N := 3) ?hd (cs := #[.int .i64 a1_0, .slice A1_1 l1_1.length c1_1, .slice A1_2 l1_2.length c1_2]) (t := 34) ?hr ?_; (case hd => rfl); (case hg => rfl); (case hr => exact sqG); intro gb147 hg w19 hbox hb; have n0_ := Aside0.mk (blk_below (g := gb146) (o := .cells #[.int .i64 a0_0, .slice A0_1 l0_1.length c0_1, .slice A0_2 l0_2.length c0_2] 34 (0, 0)) (sqK BK146.out) hb); have n1_ := Aside0.mk (below_step sqB hb); have n2_ := Aside0.mk (hbox); have n3_ := Aside0.mk ((sqS hg : w.heap.size ≤ gb147)); have n4_ := Aside0.mk ((sqS hg : w.heap.size ≤ gb147)); have n5_ := Aside0.mk ((by rw [hg]; exact Nat.ne_of_lt (blk_lt (g := gb146) (o := .cells #[.int .i64 a0_0, .slice A0_1 l0_1.length c0_1, .slice A0_2 l0_2.length c0_2] 34 (0, 0)) (sqK BK146.out)) : gb146 ≠ gb147)); have n6_ := Aside0.mk ((by rw [hg]; exact Nat.ne_of_gt (blk_lt (g := gb146) (o := .cells #[.int .i64 a0_0, .slice A0_1 l0_1.length c0_1, .slice A0_2 l0_2.length c0_2] 34 (0, 0)) (sqK BK146.out)) : gb147 ≠ gb146)); clear BK146; clear HB; have BK146 := n0_; have HB := n1_; have BK147 := n2_; have GW147 := n3_; have GE147 := n4_; have NB146_147 := n5_; have NB147_146 := n6_; clear n0_ n1_ n2_ n3_ n4_ n5_ n6_; clear hb hbox hg; have hnb20 := NB146_147.out; have hnc20 := NB147_146.out; have hcz21_0 : w19.cell? ⟨gb146, 0, none⟩ = some (.int .i64 a0_0) := (blk_cell BK146.out 0).trans rfl; have hcz21_1 : w19.cell? ⟨gb146, 1, none⟩ = some (.slice A0_1 l0_1.length c0_1) := (blk_cell BK146.out 1).trans rfl; have hcz21_2 : w19.cell? ⟨gb146, 2, none⟩ = some (.slice A0_2 l0_2.length c0_2) := (blk_cell BK146.out 2).trans rfl; have hfz21_0 := blk_frozen BK146.out 0; have hfz21_1 := blk_frozen BK146.out 1; have hfz21_2 := blk_frozen BK146.out 2; have hcz22_0 : w19.cell? ⟨gb147, 0, none⟩ = some (.int .i64 a1_0) := (blk_cell BK147.out 0).trans rfl; have hcz22_1 : w19.cell? ⟨gb147, 1, none⟩ = some (.slice A1_1 l1_1.length c1_1) := (blk_cell BK147.out 1).trans rfl; have hcz22_2 : w19.cell? ⟨gb147, 2, none⟩ = some (.slice A1_2 l1_2.length c1_2) := (blk_cell BK147.out 2).trans rfl; have hfz22_0 := blk_frozen BK147.out 0; have hfz22_1 := blk_frozen BK147.out 1; have hfz22_2 := blk_frozen BK147.out 2) | ((with_reducible refine gate_callee (f := 41) rfl ?_); refine goesL_ (some 14) rfl rfl Try.func41 (by kernel_rfl) rfl #[.slice A0_1 l0_1.length c0_1, .slice A1_1 l1_1.length c1_1] rfl sqM ?_; (with_reducible refine (laws_eqIntS.calls k _ _ l0_1 _ _ l1_1 false _ ?side1 ?side2 ?side3 ?side4 A4.out).mono ?_); (case side1 => exact sqC (Kd.C_below HR0_1.out HB.out)); (case side2 => exact HC0_1.out); (case side3 => exact sqC (Kd.C_below HR1_1.out HB.out)); (case side4 => exact HC1_1.out); rintro e w' ⟨rfl, ⟨nd, rfl⟩⟩; refine ⟨_, rfl, ?_⟩))
      go_ret
      exact ⟨sqE, sqB⟩
  · rw [if_neg c3] at H
    have c3b0 : (a0_0 == a1_0) = false := beq_eq_false_iff_ne.mpr c3
    have c3b1 : (a0_0 != a1_0) = true := bne_iff_ne.mpr c3
    obtain rfl := Option.some.inj H
    go_enter Try.func20, Try.ntmps20
    go_wp2_with (first | ((with_reducible refine gate_dst (N := 2) rfl ?_); refine box_event ?hg (N := 2) ?hd (cs := #[.int .i64 a0_0, .slice A0_1 l0_1.length c0_1, .slice A0_2 l0_2.length c0_2]) (t := 34) ?hr ?_; (case hd => rfl); (case hg => rfl); (case hr => exact sqG); intro gb146 hg w23 hbox hb; have n0_ := Aside0.mk (below_step sqB hb); have n1_ := Aside0.mk (hbox); have n2_ := Aside0.mk ((sqS hg : w.heap.size ≤ gb146)); have n3_ := Aside0.mk ((sqS hg : w.heap.size ≤ gb146)); clear HB; have HB := n0_; have BK146 := n1_; have GW146 := n2_; have GE146 := n3_; clear n0_ n1_ n2_ n3_; clear hb hbox hg) | ((with_reducible refine gate_dst (N := 3) rfl ?_); refine box_event ?hg (N := 3) ?hd (cs := #[.int .i64 a1_0, .slice A1_1 l1_1.length c1_1, .slice A1_2 l1_2.length c1_2]) (t := 34) ?hr ?_; (case hd => rfl); (case hg => rfl); (case hr => exact sqG); intro gb147 hg w24 hbox hb; have n0_ := Aside0.mk (blk_below (g := gb146) (o := .cells #[.int .i64 a0_0, .slice A0_1 l0_1.length c0_1, .slice A0_2 l0_2.length c0_2] 34 (0, 0)) (sqK BK146.out) hb); have n1_ := Aside0.mk (below_step sqB hb); have n2_ := Aside0.mk (hbox); have n3_ := Aside0.mk ((sqS hg : w.heap.size ≤ gb147)); have n4_ := Aside0.mk ((sqS hg : w.heap.size ≤ gb147)); have n5_ := Aside0.mk ((by rw [hg]; exact Nat.ne_of_lt (blk_lt (g := gb146) (o := .cells #[.int .i64 a0_0, .slice A0_1 l0_1.length c0_1, .slice A0_2 l0_2.length c0_2] 34 (0, 0)) (sqK BK146.out)) : gb146 ≠ gb147)); have n6_ := Aside0.mk ((by rw [hg]; exact Nat.ne_of_gt (blk_lt (g := gb146) (o := .cells #[.int .i64 a0_0, .slice A0_1 l0_1.length c0_1, .slice A0_2 l0_2.length c0_2] 34 (0, 0)) (sqK BK146.out)) : gb147 ≠ gb146)); clear BK146; clear HB; have BK146 := n0_; have HB := n1_; have BK147 := n2_; have GW147 := n3_; have GE147 := n4_; have NB146_147 := n5_; have NB147_146 := n6_; clear n0_ n1_ n2_ n3_ n4_ n5_ n6_; clear hb hbox hg; have hnb25 := NB146_147.out; have hnc25 := NB147_146.out; have hcz26_0 : w24.cell? ⟨gb146, 0, none⟩ = some (.int .i64 a0_0) := (blk_cell BK146.out 0).trans rfl; have hcz26_1 : w24.cell? ⟨gb146, 1, none⟩ = some (.slice A0_1 l0_1.length c0_1) := (blk_cell BK146.out 1).trans rfl; have hcz26_2 : w24.cell? ⟨gb146, 2, none⟩ = some (.slice A0_2 l0_2.length c0_2) := (blk_cell BK146.out 2).trans rfl; have hfz26_0 := blk_frozen BK146.out 0; have hfz26_1 := blk_frozen BK146.out 1; have hfz26_2 := blk_frozen BK146.out 2; have hcz27_0 : w24.cell? ⟨gb147, 0, none⟩ = some (.int .i64 a1_0) := (blk_cell BK147.out 0).trans rfl; have hcz27_1 : w24.cell? ⟨gb147, 1, none⟩ = some (.slice A1_1 l1_1.length c1_1) := (blk_cell BK147.out 1).trans rfl; have hcz27_2 : w24.cell? ⟨gb147, 2, none⟩ = some (.slice A1_2 l1_2.length c1_2) := (blk_cell BK147.out 2).trans rfl; have hfz27_0 := blk_frozen BK147.out 0; have hfz27_1 := blk_frozen BK147.out 1; have hfz27_2 := blk_frozen BK147.out 2))
    go_ret
    exact ⟨sqE, sqB⟩

end Go.Proofs.Ytopkfhnnapncgaa.F
end
section
namespace Go.Proofs.Ytopkfhnnapncgaa.F
open Go.RowKit Go.Proofs.YtopkfhnnapncgaaW.PrintWords Go.Proofs.YtopkfhnnapncgaaW.PrintLast Go.Proofs.YtopkfhnnapncgaaW.PrintMore
attribute [local go_sem] max2_int min2_int max_two min_two max_three min_three max_four min_four   -- for this text's walks alone
set_option linter.unusedVariables false
set_option linter.unusedSimpArgs false

mutual
def spec_Colourings.j0 : Nat → Int → Bool → Int → List Int → List Int → Option (Int)
  | 0, _, _, _, _, _ => none
  | k + 1, x1, x20, x111000, x111001, x111002 => if x20 = true then (some (-1)) else ((spec_l14Power.f k x1 x111000).bind fun t113 => (spec_Colourings.l0 k x1 0 t113 0 x111000 x111001 x111002))
def spec_Colourings.l0 : Nat → Int → Int → Int → Int → Int → List Int → List Int → Option (Int)
  | 0, _, _, _, _, _, _, _ => none
  | k + 1, x1, x5, x6, x7, x111000, x111001, x111002 => if x7 < x6 then (spec_Colourings.l1 k x1 x5 x6 x7 (([] : List Int)) x7 0 x111000 x111001 x111002) else (some x5)
def spec_Colourings.l1 : Nat → Int → Int → Int → Int → List Int → Int → Int → Int → List Int → List Int → Option (Int)
  | 0, _, _, _, _, _, _, _, _, _, _ => none
  | k + 1, x1, x5, x6, x7, x8, x9, x10, x111000, x111001, x111002 => if x10 < x111000 then (if x1 = 0 then (none) else (if x8.length < 17592186044416 then (spec_Colourings.l1 k x1 x5 x6 x7 (x8 ++ [Int.tmod x9 x1]) (wrap64 (Int.tdiv x9 x1)) (wrap64 (x10 + 1)) x111000 x111001 x111002) else (none))) else (spec_Colourings.l2 k x1 x5 x6 x7 x8 true 0 x111000 x111001 x111002)
def spec_Colourings.l2 : Nat → Int → Int → Int → Int → List Int → Bool → Int → Int → List Int → List Int → Option (Int)
  | 0, _, _, _, _, _, _, _, _, _, _ => none
  | k + 1, x1, x5, x6, x7, x8, x11, x12, x111000, x111001, x111002 => if x12 < (x111001.length : Int) then (if x11 = true then (if 0 ≤ x12 then (if 0 ≤ (rd x111001 x12) then (if (rd x111001 x12) < (x8.length : Int) then (if x12 < (x111002.length : Int) then (if 0 ≤ (rd x111002 x12) then (if (rd x111002 x12) < (x8.length : Int) then (spec_Colourings.l2 k x1 x5 x6 x7 x8 ((rd x8 (rd x111001 x12)) != (rd x8 (rd x111002 x12))) (wrap64 (x12 + 1)) x111000 x111001 x111002) else (none)) else (none)) else (none)) else (none)) else (none)) else (none)) else (spec_Colourings.l2 k x1 x5 x6 x7 x8 false (wrap64 (x12 + 1)) x111000 x111001 x111002)) else ((spec_l1Bit.f x11).bind fun t124 => (spec_Colourings.l0 k x1 (wrap64 (x5 + t124)) x6 (wrap64 (x7 + 1)) x111000 x111001 x111002))
end
def spec_Colourings.f (k : Nat) (a0_0 : Int) (l0_1 : List Int) (l0_2 : List Int) (a1 : Int) : Option (Int) := (spec_IsGraph.f k a0_0 l0_1 l0_2).bind fun t111 => (if t111 = true then ((spec_l1In.f a1 0 4).bind fun t112 => (spec_Colourings.j0 k a1 (!t112) a0_0 l0_1 l0_2)) else (spec_Colourings.j0 k a1 true a0_0 l0_1 l0_2))
set_option maxHeartbeats 8000000 in
set_option maxRecDepth 100000 in
theorem spec_Colourings.calls (k : Nat) (a0_0 : Int) (A0_1 : Option Addr) (c0_1 : Nat) (l0_1 : List Int) (A0_2 : Option Addr) (c0_2 : Nat) (l0_2 : List Int) (a1 : Int) (r : Int) (w : World) (hr0_1 : Kd.C (Kd.int .i64) w A0_1 l0_1.length l0_1) (hc0_1 : l0_1.length ≤ c0_1) (hr0_2 : Kd.C (Kd.int .i64) w A0_2 l0_2.length l0_2) (hc0_2 : l0_2.length ≤ c0_2) (h : spec_Colourings.f k a0_0 l0_1 l0_2 a1 = some r) :
    Calls Try.prog 17 #[.agg #[.int .i64 a0_0, .slice A0_1 l0_1.length c0_1, .slice A0_2 l0_2.length c0_2], .int .i64 a1] w fun e w' => e = .returned (.int .i64 r) ∧ Below w.heap.size w w' := by
  have hu34 := Try.underlying34
  have HR0_1 := Aside0.mk hr0_1
  have HC0_1 := Aside0.mk hc0_1
  clear hr0_1 hc0_1
  have HR0_2 := Aside0.mk hr0_2
  have HC0_2 := Aside0.mk hc0_2
  clear hr0_2 hc0_2
  have HB := Aside0.mk (Below.refl w.heap.size w)
  have H : ((spec_IsGraph.f k a0_0 l0_1 l0_2).bind fun t111 => (if t111 = true then ((spec_l1In.f a1 0 4).bind fun t112 => (spec_Colourings.j0 k a1 (!t112) a0_0 l0_1 l0_2)) else (spec_Colourings.j0 k a1 true a0_0 l0_1 l0_2))) = some r := h
  clear h
  have HC3 := Aside0.mk H
  clear H
  go_enter Try.func17, Try.ntmps17
  go_upto_region 1 with (first | ((with_reducible refine gate_dst (N := 2) rfl ?_); refine box_event ?hg (N := 2) ?hd (cs := #[.int .i64 a0_0, .slice A0_1 l0_1.length c0_1, .slice A0_2 l0_2.length c0_2]) (t := 34) ?hr ?_; (case hd => rfl); (case hg => rfl); (case hr => exact sqG); intro gb110 hg w4 hbox hb; have n0_ := Aside0.mk (below_step sqB hb); have n1_ := Aside0.mk (hbox); have n2_ := Aside0.mk ((sqS hg : w.heap.size ≤ gb110)); have n3_ := Aside0.mk ((sqS hg : w.heap.size ≤ gb110)); clear HB; have HB := n0_; have BK110 := n1_; have GW110 := n2_; have GE110 := n3_; clear n0_ n1_ n2_ n3_; clear hb hbox hg))
  repeat (go_quiet (first | ((with_reducible refine gate_dst (N := 2) rfl ?_); refine box_event ?hg (N := 2) ?hd (cs := #[.int .i64 a0_0, .slice A0_1 l0_1.length c0_1, .slice A0_2 l0_2.length c0_2]) (t := 34) ?hr ?_; (case hd => rfl); (case hg => rfl); (case hr => exact sqG); intro gb110 hg w4 hbox hb; have n0_ := Aside0.mk (below_step sqB hb); have n1_ := Aside0.mk (hbox); have n2_ := Aside0.mk ((sqS hg : w.heap.size ≤ gb110)); have n3_ := Aside0.mk ((sqS hg : w.heap.size ≤ gb110)); clear HB; have HB := n0_; have BK110 := n1_; have GW110 := n2_; have GE110 := n3_; clear n0_ n1_ n2_ n3_; clear hb hbox hg)); go_upto_region 1 with (first | ((with_reducible refine gate_dst (N := 2) rfl ?_); refine box_event ?hg (N := 2) ?hd (cs := #[.int .i64 a0_0, .slice A0_1 l0_1.length c0_1, .slice A0_2 l0_2.length c0_2]) (t := 34) ?hr ?_; (case hd => rfl); (case hg => rfl); (case hr => exact sqG); intro gb110 hg w4 hbox hb; have n0_ := Aside0.mk (below_step sqB hb); have n1_ := Aside0.mk (hbox); have n2_ := Aside0.mk ((sqS hg : w.heap.size ≤ gb110)); have n3_ := Aside0.mk ((sqS hg : w.heap.size ≤ gb110)); clear HB; have HB := n0_; have BK110 := n1_; have GW110 := n2_; have GE110 := n3_; clear n0_ n1_ n2_ n3_; clear hb hbox hg)))
  (try simp only [Act.put, List.setIfInBounds_toArray, List.set_cons_zero, List.set_cons_succ])
  go_cut [20] (fun v20 wc => ∃ (kq : Nat) (x20_2 : Bool), v20 = .bool x20_2 ∧ Aside0 (spec_Colourings.j0 kq a1 x20_2 a0_0 l0_1 l0_2 = some r) ∧ Aside0 (kq ≤ k) ∧ Aside0 (wc.heap[gb110]? = some (.cells #[.int .i64 a0_0, (.slice A0_1 l0_1.length c0_1), (.slice A0_2 l0_2.length c0_2)] 34 (0, 0))) ∧ Aside0 (Below w.heap.size w wc))
  case first =>
    have H := HC3.out
    clear HC3
    replace H := Option.bind_eq_some_iff.mp H
    obtain ⟨t111, A50, H⟩ := H
    replace H : (if t111 = true then ((spec_l1In.f a1 0 4).bind fun t112 => (spec_Colourings.j0 k a1 (!t112) a0_0 l0_1 l0_2)) else (spec_Colourings.j0 k a1 true a0_0 l0_1 l0_2)) = some r := H
    have A5 := Aside0.mk A50
    clear A50
    by_cases c6 : t111 = true
    · subst c6
      have H1 : ((spec_l1In.f a1 0 4).bind fun t112 => (spec_Colourings.j0 k a1 (!t112) a0_0 l0_1 l0_2)) = some r := by rw [if_pos rfl] at H; exact H
      clear H
      have H := H1
      clear H1
      replace H := Option.bind_eq_some_iff.mp H
      obtain ⟨t112, A70, H⟩ := H
      replace H : (spec_Colourings.j0 k a1 (!t112) a0_0 l0_1 l0_2) = some r := H
      have A7 := Aside0.mk A70
      clear A70
      have H' := Aside0.mk H
      clear H
      have hcz8_0 : w4.cell? ⟨gb110, 0, none⟩ = some (.int .i64 a0_0) := (blk_cell BK110.out 0).trans rfl
      have hcz8_1 : w4.cell? ⟨gb110, 1, none⟩ = some (.slice A0_1 l0_1.length c0_1) := (blk_cell BK110.out 1).trans rfl
      have hcz8_2 : w4.cell? ⟨gb110, 2, none⟩ = some (.slice A0_2 l0_2.length c0_2) := (blk_cell BK110.out 2).trans rfl
      have hfz8_0 := blk_frozen BK110.out 0; have hfz8_1 := blk_frozen BK110.out 1; have hfz8_2 := blk_frozen BK110.out 2
      go_wp2_with (first | (go_at_call 42; (try simp only [i64_w, i32_w]); (with_reducible refine (spec_IsGraph.calls k a0_0 _ _ l0_1 _ _ l0_2 true _ ?side1 ?side2 ?side3 ?side4 A5.out).mono ?_); (case side1 => exact sqC (Kd.C_below HR0_1.out HB.out)); (case side2 => exact HC0_1.out); (case side3 => exact sqC (Kd.C_below HR0_2.out HB.out)); (case side4 => exact HC0_2.out); rintro e w9 ⟨rfl, hb⟩; have n0_ := Aside0.mk (blk_below (g := gb110) (o := .cells #[.int .i64 a0_0, .slice A0_1 l0_1.length c0_1, .slice A0_2 l0_2.length c0_2] 34 (0, 0)) (sqK BK110.out) hb); have n1_ := Aside0.mk (below_step sqB hb); clear BK110; clear HB; have BK110 := n0_; have HB := n1_; clear n0_ n1_; (try clear hb); (try clear hb2); (try clear hk); (try clear hi)) | (go_at_call 43; (try simp only [i64_w, i32_w]); (with_reducible refine (spec_l1In.calls a1 0 4 t112 _ A7.out).mono ?_); rintro e w' ⟨rfl, ⟨nd, rfl⟩⟩; (try first | exact ⟨rfl, _, World.drewN_drewN _ _ _⟩ | exact ⟨rfl, _, Eq.trans (World.drewN_drewN _ _ _) (congrArg (World.drewN _) (Nat.add_assoc _ _ _))⟩)))
      repeat (go_quiet (first | (go_at_call 42; (try simp only [i64_w, i32_w]); (with_reducible refine (spec_IsGraph.calls k a0_0 _ _ l0_1 _ _ l0_2 true _ ?side1 ?side2 ?side3 ?side4 A5.out).mono ?_); (case side1 => exact sqC (Kd.C_below HR0_1.out HB.out)); (case side2 => exact HC0_1.out); (case side3 => exact sqC (Kd.C_below HR0_2.out HB.out)); (case side4 => exact HC0_2.out); rintro e w9 ⟨rfl, hb⟩; have n0_ := Aside0.mk (blk_below (g := gb110) (o := .cells #[.int .i64 a0_0, .slice A0_1 l0_1.length c0_1, .slice A0_2 l0_2.length c0_2] 34 (0, 0)) (sqK BK110.out) hb); have n1_ := Aside0.mk (below_step sqB hb); clear BK110; clear HB; have BK110 := n0_; have HB := n1_; clear n0_ n1_; (try clear hb); (try clear hb2); (try clear hk); (try clear hi)) | (go_at_call 43; (try simp only [i64_w, i32_w]); (with_reducible refine (spec_l1In.calls a1 0 4 t112 _ A7.out).mono ?_); rintro e w' ⟨rfl, ⟨nd, rfl⟩⟩; (try first | exact ⟨rfl, _, World.drewN_drewN _ _ _⟩ | exact ⟨rfl, _, Eq.trans (World.drewN_drewN _ _ _) (congrArg (World.drewN _) (Nat.add_assoc _ _ _))⟩))); try go_wp2_with (first | (go_at_call 42; (try simp only [i64_w, i32_w]); (with_reducible refine (spec_IsGraph.calls k a0_0 _ _ l0_1 _ _ l0_2 true _ ?side1 ?side2 ?side3 ?side4 A5.out).mono ?_); (case side1 => exact sqC (Kd.C_below HR0_1.out HB.out)); (case side2 => exact HC0_1.out); (case side3 => exact sqC (Kd.C_below HR0_2.out HB.out)); (case side4 => exact HC0_2.out); rintro e w9 ⟨rfl, hb⟩; have n0_ := Aside0.mk (blk_below (g := gb110) (o := .cells #[.int .i64 a0_0, .slice A0_1 l0_1.length c0_1, .slice A0_2 l0_2.length c0_2] 34 (0, 0)) (sqK BK110.out) hb); have n1_ := Aside0.mk (below_step sqB hb); clear BK110; clear HB; have BK110 := n0_; have HB := n1_; clear n0_ n1_; (try clear hb); (try clear hb2); (try clear hk); (try clear hi)) | (go_at_call 43; (try simp only [i64_w, i32_w]); (with_reducible refine (spec_l1In.calls a1 0 4 t112 _ A7.out).mono ?_); rintro e w' ⟨rfl, ⟨nd, rfl⟩⟩; (try first | exact ⟨rfl, _, World.drewN_drewN _ _ _⟩ | exact ⟨rfl, _, Eq.trans (World.drewN_drewN _ _ _) (congrArg (World.drewN _) (Nat.add_assoc _ _ _))⟩))))
      go_meet
      case rel => exact ⟨_, (!t112), (sqD), H', ⟨by first | omega | exact Nat.le_refl _⟩, ⟨sqK BK110.out⟩, ⟨sqB⟩⟩
    · replace c6 := Bool.eq_false_iff.mpr c6
      subst c6
      have H1 : (spec_Colourings.j0 k a1 true a0_0 l0_1 l0_2) = some r := by rw [if_neg (show ¬ (false = true) by decide)] at H; exact H
      clear H
      have H := H1
      clear H1
      have H' := Aside0.mk H
      clear H
      have hcz10_0 : w4.cell? ⟨gb110, 0, none⟩ = some (.int .i64 a0_0) := (blk_cell BK110.out 0).trans rfl
      have hcz10_1 : w4.cell? ⟨gb110, 1, none⟩ = some (.slice A0_1 l0_1.length c0_1) := (blk_cell BK110.out 1).trans rfl
      have hcz10_2 : w4.cell? ⟨gb110, 2, none⟩ = some (.slice A0_2 l0_2.length c0_2) := (blk_cell BK110.out 2).trans rfl
      have hfz10_0 := blk_frozen BK110.out 0; have hfz10_1 := blk_frozen BK110.out 1; have hfz10_2 := blk_frozen BK110.out 2
      go_wp2_with (first | (go_at_call 42; (try simp only [i64_w, i32_w]); (with_reducible refine (spec_IsGraph.calls k a0_0 _ _ l0_1 _ _ l0_2 false _ ?side1 ?side2 ?side3 ?side4 A5.out).mono ?_); (case side1 => exact sqC (Kd.C_below HR0_1.out HB.out)); (case side2 => exact HC0_1.out); (case side3 => exact sqC (Kd.C_below HR0_2.out HB.out)); (case side4 => exact HC0_2.out); rintro e w11 ⟨rfl, hb⟩; have n0_ := Aside0.mk (blk_below (g := gb110) (o := .cells #[.int .i64 a0_0, .slice A0_1 l0_1.length c0_1, .slice A0_2 l0_2.length c0_2] 34 (0, 0)) (sqK BK110.out) hb); have n1_ := Aside0.mk (below_step sqB hb); clear BK110; clear HB; have BK110 := n0_; have HB := n1_; clear n0_ n1_; (try clear hb); (try clear hb2); (try clear hk); (try clear hi)))
      repeat (go_quiet (first | (go_at_call 42; (try simp only [i64_w, i32_w]); (with_reducible refine (spec_IsGraph.calls k a0_0 _ _ l0_1 _ _ l0_2 false _ ?side1 ?side2 ?side3 ?side4 A5.out).mono ?_); (case side1 => exact sqC (Kd.C_below HR0_1.out HB.out)); (case side2 => exact HC0_1.out); (case side3 => exact sqC (Kd.C_below HR0_2.out HB.out)); (case side4 => exact HC0_2.out); rintro e w11 ⟨rfl, hb⟩; have n0_ := Aside0.mk (blk_below (g := gb110) (o := .cells #[.int .i64 a0_0, .slice A0_1 l0_1.length c0_1, .slice A0_2 l0_2.length c0_2] 34 (0, 0)) (sqK BK110.out) hb); have n1_ := Aside0.mk (below_step sqB hb); clear BK110; clear HB; have BK110 := n0_; have HB := n1_; clear n0_ n1_; (try clear hb); (try clear hb2); (try clear hk); (try clear hi))); try go_wp2_with (first | (go_at_call 42; (try simp only [i64_w, i32_w]); (with_reducible refine (spec_IsGraph.calls k a0_0 _ _ l0_1 _ _ l0_2 false _ ?side1 ?side2 ?side3 ?side4 A5.out).mono ?_); (case side1 => exact sqC (Kd.C_below HR0_1.out HB.out)); (case side2 => exact HC0_1.out); (case side3 => exact sqC (Kd.C_below HR0_2.out HB.out)); (case side4 => exact HC0_2.out); rintro e w11 ⟨rfl, hb⟩; have n0_ := Aside0.mk (blk_below (g := gb110) (o := .cells #[.int .i64 a0_0, .slice A0_1 l0_1.length c0_1, .slice A0_2 l0_2.length c0_2] 34 (0, 0)) (sqK BK110.out) hb); have n1_ := Aside0.mk (below_step sqB hb); clear BK110; clear HB; have BK110 := n0_; have HB := n1_; clear n0_ n1_; (try clear hb); (try clear hb2); (try clear hk); (try clear hi))))
      go_meet
      case rel => exact ⟨_, (true), (sqD), H', ⟨by first | omega | exact Nat.le_refl _⟩, ⟨sqK BK110.out⟩, ⟨sqB⟩⟩
  case rest =>
    clear HC3
    try clear c1
    try clear p2
    try clear c6
    try clear hcz10_0
    try clear hcz10_1
    try clear hcz10_2
    try clear hcz8_0
    try clear hcz8_1
    try clear hcz8_2
    try clear hfz10_0
    try clear hfz10_1
    try clear hfz10_2
    try clear hfz8_0
    try clear hfz8_1
    try clear hfz8_2
    obtain ⟨kq, x20_2, rfl, HA, HJ2, BK110, HB⟩ := hcut
    cases kq with
    | zero => exact absurd HA.out (by simp [spec_Colourings.j0])
    | succ kj2 =>
      have H := HA.out
      clear HA
      simp only [spec_Colourings.j0] at H
      by_cases c12 : x20_2 = true
      · subst c12
        have H1 : (some (-1)) = some r := by rw [if_pos rfl] at H; exact H
        clear H
        have H := H1
        clear H1
        obtain rfl := Option.some.inj H
        go_wp2
        repeat (go_quiet (fail); try go_wp2)
        go_ret
        exact ⟨sqE, sqB⟩
      · replace c12 := Bool.eq_false_iff.mpr c12
        subst c12
        have H1 : ((spec_l14Power.f kj2 a1 a0_0).bind fun t113 => (spec_Colourings.l0 kj2 a1 0 t113 0 a0_0 l0_1 l0_2)) = some r := by rw [if_neg (show ¬ (false = true) by decide)] at H; exact H
        clear H
        have H := H1
        clear H1
        replace H := Option.bind_eq_some_iff.mp H
        obtain ⟨t113, A130, H⟩ := H
        replace H : (spec_Colourings.l0 kj2 a1 0 t113 0 a0_0 l0_1 l0_2) = some r := H
        have A13 := Aside0.mk A130
        clear A130
        have H' := Aside0.mk H
        clear H
        have hcz14_0 : wc.cell? ⟨gb110, 0, none⟩ = some (.int .i64 a0_0) := (blk_cell BK110.out 0).trans rfl
        have hcz14_1 : wc.cell? ⟨gb110, 1, none⟩ = some (.slice A0_1 l0_1.length c0_1) := (blk_cell BK110.out 1).trans rfl
        have hcz14_2 : wc.cell? ⟨gb110, 2, none⟩ = some (.slice A0_2 l0_2.length c0_2) := (blk_cell BK110.out 2).trans rfl
        have hfz14_0 := blk_frozen BK110.out 0; have hfz14_1 := blk_frozen BK110.out 1; have hfz14_2 := blk_frozen BK110.out 2
        go_wp2_with (first | (go_at_call 44; (try simp only [i64_w, i32_w]); (with_reducible refine (spec_l14Power.calls kj2 a1 a0_0 t113 _ A13.out).mono ?_); rintro e w' ⟨rfl, ⟨nd, rfl⟩⟩; (try first | exact ⟨rfl, _, World.drewN_drewN _ _ _⟩ | exact ⟨rfl, _, Eq.trans (World.drewN_drewN _ _ _) (congrArg (World.drewN _) (Nat.add_assoc _ _ _))⟩)))
        repeat (go_quiet (first | (go_at_call 44; (try simp only [i64_w, i32_w]); (with_reducible refine (spec_l14Power.calls kj2 a1 a0_0 t113 _ A13.out).mono ?_); rintro e w' ⟨rfl, ⟨nd, rfl⟩⟩; (try first | exact ⟨rfl, _, World.drewN_drewN _ _ _⟩ | exact ⟨rfl, _, Eq.trans (World.drewN_drewN _ _ _) (congrArg (World.drewN _) (Nat.add_assoc _ _ _))⟩))); try go_wp2_with (first | (go_at_call 44; (try simp only [i64_w, i32_w]); (with_reducible refine (spec_l14Power.calls kj2 a1 a0_0 t113 _ A13.out).mono ?_); rintro e w' ⟨rfl, ⟨nd, rfl⟩⟩; (try first | exact ⟨rfl, _, World.drewN_drewN _ _ _⟩ | exact ⟨rfl, _, Eq.trans (World.drewN_drewN _ _ _) (congrArg (World.drewN _) (Nat.add_assoc _ _ _))⟩))))
        go_loopg [5, 7] kj2 (fun kq v5 v7 w' => ∃ (x5_2 : Int) (x7_2 : Int), v5 = .int .i64 x5_2 ∧ v7 = .int .i64 x7_2 ∧ Aside0 (spec_Colourings.l0 kq a1 x5_2 t113 x7_2 a0_0 l0_1 l0_2 = some r) ∧ Aside0 (kq ≤ kj2) ∧ Aside0 (w'.heap[gb110]? = some (.cells #[.int .i64 a0_0, (.slice A0_1 l0_1.length c0_1), (.slice A0_2 l0_2.length c0_2)] 34 (0, 0))) ∧ Aside0 (Below w.heap.size w w'))
        case atStart => exact ⟨(0), (0), (sqD), (sqD), H', ⟨Nat.le_refl _⟩, ⟨sqK BK110.out⟩, ⟨sqB⟩⟩
        case round =>
          clear H'
          try clear c1
          try clear p2
          try clear c6
          try clear c12
          try clear hcz10_0
          try clear hcz10_1
          try clear hcz10_2
          try clear hcz14_0
          try clear hcz14_1
          try clear hcz14_2
          try clear hcz8_0
          try clear hcz8_1
          try clear hcz8_2
          try clear hfz10_0
          try clear hfz10_1
          try clear hfz10_2
          try clear hfz14_0
          try clear hfz14_1
          try clear hfz14_2
          try clear hfz8_0
          try clear hfz8_1
          try clear hfz8_2
          try clear p2
          obtain ⟨x5_2, x7_2, rfl, rfl, HA, HK2, BK110, HB⟩ := hrel
          cases gk with
          | zero => exact absurd HA.out (by simp [spec_Colourings.l0])
          | succ k2 =>
            have H := HA.out
            clear HA
            simp only [spec_Colourings.l0] at H
            by_cases c15 : x7_2 < t113
            · rw [if_pos c15] at H
              have c15b0 : decide (x7_2 < t113) = true := decide_eq_true c15
              clear c15
              obtain ⟨y114, hy114⟩ : ∃ y_ : List Int, y_ = (([] : List Int)) := ⟨_, rfl⟩
              replace H : (spec_Colourings.l1 k2 a1 x5_2 t113 x7_2 y114 x7_2 0 a0_0 l0_1 l0_2) = some r := by first | (rw [hy114]; with_reducible exact H) | (have H2_ := (Option.bind_some _ _).symm.trans H; rw [hy114]; with_reducible exact H2_) | (have H2_ := (Option.bind_some _ _).symm.trans H; with_reducible exact H2_) | with_reducible exact H | (rw [hy114]; exact H) | exact H
              have Ny114 := Aside0.mk hy114
              clear hy114
              have H' := Aside0.mk H
              clear H
              go_wp2_with (first | ((with_reducible refine gate_dst (N := 30) rfl ?_); refine Kd.R_lit (Kd.int .i64) _ 3 ?hg (N := 30) ?hd (xs := ([] : List Int)) (inner := []) (ok := fun _ => True) (okp := fun _ => True) ?hr ?hp (fun _ hk => hk) trivial (Below.refl _ _) (Nat.le_refl _) (by simp) ?_; (case hd => rfl); (case hg => rfl); (case hr => exact sqG); (case hp => exact (Reps.none _ _)); intro v115 w16 ho17 hb hg_ hnew_; clear hg_ hnew_; (first | rw [← Ny114.out] at ho17 | (simp only [Int.reduceToNat] at ho17; rw [← Ny114.out] at ho17)); have n0_ := Aside0.mk (Kd.R_lower ho17 (below_size sqB)); have n1_ := Aside0.mk (blk_below (g := gb110) (o := .cells #[.int .i64 a0_0, .slice A0_1 l0_1.length c0_1, .slice A0_2 l0_2.length c0_2] 34 (0, 0)) (sqK BK110.out) hb); have n2_ := Aside0.mk (below_step sqB hb); clear BK110; clear HB; have HO116 := n0_; have BK110 := n1_; have HB := n2_; clear n0_ n1_ n2_; clear hb ho17))
              repeat (go_quiet (first | ((with_reducible refine gate_dst (N := 30) rfl ?_); refine Kd.R_lit (Kd.int .i64) _ 3 ?hg (N := 30) ?hd (xs := ([] : List Int)) (inner := []) (ok := fun _ => True) (okp := fun _ => True) ?hr ?hp (fun _ hk => hk) trivial (Below.refl _ _) (Nat.le_refl _) (by simp) ?_; (case hd => rfl); (case hg => rfl); (case hr => exact sqG); (case hp => exact (Reps.none _ _)); intro v115 w16 ho17 hb hg_ hnew_; clear hg_ hnew_; (first | rw [← Ny114.out] at ho17 | (simp only [Int.reduceToNat] at ho17; rw [← Ny114.out] at ho17)); have n0_ := Aside0.mk (Kd.R_lower ho17 (below_size sqB)); have n1_ := Aside0.mk (blk_below (g := gb110) (o := .cells #[.int .i64 a0_0, .slice A0_1 l0_1.length c0_1, .slice A0_2 l0_2.length c0_2] 34 (0, 0)) (sqK BK110.out) hb); have n2_ := Aside0.mk (below_step sqB hb); clear BK110; clear HB; have HO116 := n0_; have BK110 := n1_; have HB := n2_; clear n0_ n1_ n2_; clear hb ho17)); try go_wp2_with (first | ((with_reducible refine gate_dst (N := 30) rfl ?_); refine Kd.R_lit (Kd.int .i64) _ 3 ?hg (N := 30) ?hd (xs := ([] : List Int)) (inner := []) (ok := fun _ => True) (okp := fun _ => True) ?hr ?hp (fun _ hk => hk) trivial (Below.refl _ _) (Nat.le_refl _) (by simp) ?_; (case hd => rfl); (case hg => rfl); (case hr => exact sqG); (case hp => exact (Reps.none _ _)); intro v115 w16 ho17 hb hg_ hnew_; clear hg_ hnew_; (first | rw [← Ny114.out] at ho17 | (simp only [Int.reduceToNat] at ho17; rw [← Ny114.out] at ho17)); have n0_ := Aside0.mk (Kd.R_lower ho17 (below_size sqB)); have n1_ := Aside0.mk (blk_below (g := gb110) (o := .cells #[.int .i64 a0_0, .slice A0_1 l0_1.length c0_1, .slice A0_2 l0_2.length c0_2] 34 (0, 0)) (sqK BK110.out) hb); have n2_ := Aside0.mk (below_step sqB hb); clear BK110; clear HB; have HO116 := n0_; have BK110 := n1_; have HB := n2_; clear n0_ n1_ n2_; clear hb ho17)))
              go_loopg [8, 9, 10] k2 (fun kq v8 v9 v10 w' => ∃ (x8_3 : List Int) (x9_3 : Int) (x10_3 : Int), v9 = .int .i64 x9_3 ∧ v10 = .int .i64 x10_3 ∧ Aside0 (spec_Colourings.l1 kq a1 x5_2 t113 x7_2 x8_3 x9_3 x10_3 a0_0 l0_1 l0_2 = some r) ∧ Aside0 (kq ≤ k2) ∧ Aside0 (Kd.R (Kd.int .i64) 3 w' w.heap.size (fun _ => True) v8 x8_3) ∧ Aside0 (w'.heap[gb110]? = some (.cells #[.int .i64 a0_0, (.slice A0_1 l0_1.length c0_1), (.slice A0_2 l0_2.length c0_2)] 34 (0, 0))) ∧ Aside0 (Below w.heap.size w w'))
              case atStart => exact ⟨(y114), (x7_2), (0), (sqD), (sqD), H', ⟨Nat.le_refl _⟩, ⟨sqR HO116.out⟩, ⟨sqK BK110.out⟩, ⟨sqB⟩⟩
              case round =>
                clear H'
                try clear c1
                try clear p2
                try clear c6
                try clear c12
                try clear c15
                try clear c15b0
                try clear c17
                try clear hcz10_0
                try clear hcz10_1
                try clear hcz10_2
                try clear hcz14_0
                try clear hcz14_1
                try clear hcz14_2
                try clear hcz8_0
                try clear hcz8_1
                try clear hcz8_2
                try clear hfz10_0
                try clear hfz10_1
                try clear hfz10_2
                try clear hfz14_0
                try clear hfz14_1
                try clear hfz14_2
                try clear hfz8_0
                try clear hfz8_1
                try clear hfz8_2
                try clear p2
                obtain ⟨x8_3, x9_3, x10_3, rfl, rfl, HA, HK3, HO_8, BK110, HB⟩ := hrel
                cases gk with
                | zero => exact absurd HA.out (by simp [spec_Colourings.l1])
                | succ k3 =>
                  have H := HA.out
                  clear HA
                  simp only [spec_Colourings.l1] at H
                  by_cases c18 : x10_3 < a0_0
                  · rw [if_pos c18] at H
                    have c18b0 : decide (x10_3 < a0_0) = true := decide_eq_true c18
                    clear c18
                    by_cases c19 : a1 = 0
                    · rw [if_pos c19] at H
                      exact absurd H (by simp)
                    · rw [if_neg c19] at H
                      have c19b0 : (a1 == 0) = false := beq_eq_false_iff_ne.mpr c19
                      have c19b1 : (a1 != 0) = true := bne_iff_ne.mpr c19
                      by_cases c20 : x8_3.length < 17592186044416
                      · rw [if_pos c20] at H
                        have LMc20 := Aside0.mk c20
                        clear c20
                        obtain ⟨y117, hy117⟩ : ∃ y_ : List Int, y_ = (x8_3 ++ [Int.tmod x9_3 a1]) := ⟨_, rfl⟩
                        replace H : (spec_Colourings.l1 k3 a1 x5_2 t113 x7_2 y117 (wrap64 (Int.tdiv x9_3 a1)) (wrap64 (x10_3 + 1)) a0_0 l0_1 l0_2) = some r := by first | (rw [hy117]; with_reducible exact H) | (have H2_ := (Option.bind_some _ _).symm.trans H; rw [hy117]; with_reducible exact H2_) | (have H2_ := (Option.bind_some _ _).symm.trans H; with_reducible exact H2_) | with_reducible exact H | (rw [hy117]; exact H) | exact H
                        have Ny117 := Aside0.mk hy117
                        clear hy117
                        have H' := Aside0.mk H
                        clear H
                        have hcz21_0 : wr.cell? ⟨gb110, 0, none⟩ = some (.int .i64 a0_0) := (blk_cell BK110.out 0).trans rfl
                        have hcz21_1 : wr.cell? ⟨gb110, 1, none⟩ = some (.slice A0_1 l0_1.length c0_1) := (blk_cell BK110.out 1).trans rfl
                        have hcz21_2 : wr.cell? ⟨gb110, 2, none⟩ = some (.slice A0_2 l0_2.length c0_2) := (blk_cell BK110.out 2).trans rfl
                        have hfz21_0 := blk_frozen BK110.out 0; have hfz21_1 := blk_frozen BK110.out 1; have hfz21_2 := blk_frozen BK110.out 2
                        go_wp2_with (first | ((with_reducible refine gate_builtin (b := .append) (xs := #[.tmp 38, .tmp 42]) rfl ?_); at_builtin; refine Kd.R_append (Kd.int .i64) (w0 := w) w.heap.size rfl (.tmp 38) (.tmp 42) 22 3 (.int .i64 0) 8 rfl Try.underlying22 info3 rfl (by decide) (by omega) u8 x8_3 (Int.tmod x9_3 a1) [.int .i64 (Int.tmod x9_3 a1)] (fun _ => True) (fun _ => False) rfl rfl ?aP (fun _ hk => hk.elim) ?aF ?aO ?aB ?aS ?aL ?_; (case aP => exact rfl); (case aB => exact sqB); (case aF => exact (fun _ _ => trivial)); (case aO => exact (sqR HO_8.out)); (case aS => exact (below_size sqB)); (case aL => have := LMc20.out; omega); intro v118 w22 ho hb hg hat; rw [← Ny117.out] at ho; have n0_ := Aside0.mk (blk_grown (g := gb110) (o := .cells #[.int .i64 a0_0, .slice A0_1 l0_1.length c0_1, .slice A0_2 l0_2.length c0_2] 34 (0, 0)) (sqK BK110.out) hg (Kd.R_ne HO_8.out BK110.out (by decide))); have n1_ := Aside0.mk (hb); have n2_ := Aside0.mk (ho); clear BK110; clear HB; clear HO_8; have BK110 := n0_; have HB := n1_; have HO119 := n2_; clear n0_ n1_ n2_; clear ho hb hg hat))
                        repeat (go_quiet (first | ((with_reducible refine gate_builtin (b := .append) (xs := #[.tmp 38, .tmp 42]) rfl ?_); at_builtin; refine Kd.R_append (Kd.int .i64) (w0 := w) w.heap.size rfl (.tmp 38) (.tmp 42) 22 3 (.int .i64 0) 8 rfl Try.underlying22 info3 rfl (by decide) (by omega) u8 x8_3 (Int.tmod x9_3 a1) [.int .i64 (Int.tmod x9_3 a1)] (fun _ => True) (fun _ => False) rfl rfl ?aP (fun _ hk => hk.elim) ?aF ?aO ?aB ?aS ?aL ?_; (case aP => exact rfl); (case aB => exact sqB); (case aF => exact (fun _ _ => trivial)); (case aO => exact (sqR HO_8.out)); (case aS => exact (below_size sqB)); (case aL => have := LMc20.out; omega); intro v118 w22 ho hb hg hat; rw [← Ny117.out] at ho; have n0_ := Aside0.mk (blk_grown (g := gb110) (o := .cells #[.int .i64 a0_0, .slice A0_1 l0_1.length c0_1, .slice A0_2 l0_2.length c0_2] 34 (0, 0)) (sqK BK110.out) hg (Kd.R_ne HO_8.out BK110.out (by decide))); have n1_ := Aside0.mk (hb); have n2_ := Aside0.mk (ho); clear BK110; clear HB; clear HO_8; have BK110 := n0_; have HB := n1_; have HO119 := n2_; clear n0_ n1_ n2_; clear ho hb hg hat)); try go_wp2_with (first | ((with_reducible refine gate_builtin (b := .append) (xs := #[.tmp 38, .tmp 42]) rfl ?_); at_builtin; refine Kd.R_append (Kd.int .i64) (w0 := w) w.heap.size rfl (.tmp 38) (.tmp 42) 22 3 (.int .i64 0) 8 rfl Try.underlying22 info3 rfl (by decide) (by omega) u8 x8_3 (Int.tmod x9_3 a1) [.int .i64 (Int.tmod x9_3 a1)] (fun _ => True) (fun _ => False) rfl rfl ?aP (fun _ hk => hk.elim) ?aF ?aO ?aB ?aS ?aL ?_; (case aP => exact rfl); (case aB => exact sqB); (case aF => exact (fun _ _ => trivial)); (case aO => exact (sqR HO_8.out)); (case aS => exact (below_size sqB)); (case aL => have := LMc20.out; omega); intro v118 w22 ho hb hg hat; rw [← Ny117.out] at ho; have n0_ := Aside0.mk (blk_grown (g := gb110) (o := .cells #[.int .i64 a0_0, .slice A0_1 l0_1.length c0_1, .slice A0_2 l0_2.length c0_2] 34 (0, 0)) (sqK BK110.out) hg (Kd.R_ne HO_8.out BK110.out (by decide))); have n1_ := Aside0.mk (hb); have n2_ := Aside0.mk (ho); clear BK110; clear HB; clear HO_8; have BK110 := n0_; have HB := n1_; have HO119 := n2_; clear n0_ n1_ n2_; clear ho hb hg hat)))
                        go_roundg k3
                        case measure => have := HJ2.out; have := HK2.out; have := HK3.out; omega
                        case rel => exact ⟨(y117), (wrap64 (Int.tdiv x9_3 a1)), (wrap64 (x10_3 + 1)), (sqD), (sqD), H', ⟨by have := HJ2.out; have := HK2.out; have := HK3.out; omega⟩, ⟨sqR HO119.out⟩, ⟨sqK BK110.out⟩, ⟨sqB⟩⟩
                      · rw [if_neg c20] at H
                        exact absurd H (by simp)
                  · rw [if_neg c18] at H
                    have c18b0 : decide (x10_3 < a0_0) = false := decide_eq_false c18
                    clear c18
                    have H' := Aside0.mk H
                    clear H
                    have hcz23_0 : wr.cell? ⟨gb110, 0, none⟩ = some (.int .i64 a0_0) := (blk_cell BK110.out 0).trans rfl
                    have hcz23_1 : wr.cell? ⟨gb110, 1, none⟩ = some (.slice A0_1 l0_1.length c0_1) := (blk_cell BK110.out 1).trans rfl
                    have hcz23_2 : wr.cell? ⟨gb110, 2, none⟩ = some (.slice A0_2 l0_2.length c0_2) := (blk_cell BK110.out 2).trans rfl
                    have hfz23_0 := blk_frozen BK110.out 0; have hfz23_1 := blk_frozen BK110.out 1; have hfz23_2 := blk_frozen BK110.out 2
                    go_wp2
                    repeat (go_quiet (fail); try go_wp2)
                    go_loopg [11, 12] k3 (fun kq v11 v12 w' => ∃ (x11_4 : Bool) (x12_4 : Int), v11 = .bool x11_4 ∧ v12 = .int .i64 x12_4 ∧ Aside0 (spec_Colourings.l2 kq a1 x5_2 t113 x7_2 x8_3 x11_4 x12_4 a0_0 l0_1 l0_2 = some r) ∧ Aside0 (kq ≤ k3) ∧ Aside0 (Kd.R (Kd.int .i64) 3 w' w.heap.size (fun _ => True) u8 x8_3) ∧ Aside0 (w'.heap[gb110]? = some (.cells #[.int .i64 a0_0, (.slice A0_1 l0_1.length c0_1), (.slice A0_2 l0_2.length c0_2)] 34 (0, 0))) ∧ Aside0 (Below w.heap.size w w'))
                    case atStart => exact ⟨(true), (0), (sqD), (sqD), H', ⟨Nat.le_refl _⟩, ⟨sqR HO_8.out⟩, ⟨sqK BK110.out⟩, ⟨sqB⟩⟩
                    case round =>
                      clear H'
                      try clear c1
                      try clear c2
                      try clear p2
                      try clear c6
                      try clear p6
                      try clear c12
                      try clear c15
                      try clear c15b0
                      try clear c17
                      try clear c18
                      try clear c18b0
                      try clear c19
                      try clear c19b0
                      try clear c19b1
                      try clear c20
                      try clear hcz10_0
                      try clear hcz10_1
                      try clear hcz10_2
                      try clear hcz14_0
                      try clear hcz14_1
                      try clear hcz14_2
                      try clear hcz21_0
                      try clear hcz21_1
                      try clear hcz21_2
                      try clear hcz23_0
                      try clear hcz23_1
                      try clear hcz23_2
                      try clear hcz8_0
                      try clear hcz8_1
                      try clear hcz8_2
                      try clear hfz10_0
                      try clear hfz10_1
                      try clear hfz10_2
                      try clear hfz14_0
                      try clear hfz14_1
                      try clear hfz14_2
                      try clear hfz21_0
                      try clear hfz21_1
                      try clear hfz21_2
                      try clear hfz23_0
                      try clear hfz23_1
                      try clear hfz23_2
                      try clear hfz8_0
                      try clear hfz8_1
                      try clear hfz8_2
                      try clear p2
                      obtain ⟨x11_4, x12_4, rfl, rfl, HA, HK4, HO_8, BK110, HB⟩ := hrel
                      cases gk with
                      | zero => exact absurd HA.out (by simp [spec_Colourings.l2])
                      | succ k4 =>
                        have H := HA.out
                        clear HA
                        simp only [spec_Colourings.l2] at H
                        by_cases c24 : x12_4 < (l0_1.length : Int)
                        · rw [if_pos c24] at H
                          have c24b0 : decide (x12_4 < (l0_1.length : Int)) = true := decide_eq_true c24
                          clear c24
                          by_cases c25 : x11_4 = true
                          · subst c25
                            have H1 : (if 0 ≤ x12_4 then (if 0 ≤ (rd l0_1 x12_4) then (if (rd l0_1 x12_4) < (x8_3.length : Int) then (if x12_4 < (l0_2.length : Int) then (if 0 ≤ (rd l0_2 x12_4) then (if (rd l0_2 x12_4) < (x8_3.length : Int) then (spec_Colourings.l2 k4 a1 x5_2 t113 x7_2 x8_3 ((rd x8_3 (rd l0_1 x12_4)) != (rd x8_3 (rd l0_2 x12_4))) (wrap64 (x12_4 + 1)) a0_0 l0_1 l0_2) else (none)) else (none)) else (none)) else (none)) else (none)) else (none)) = some r := by rw [if_pos rfl] at H; exact H
                            clear H
                            have H := H1
                            clear H1
                            by_cases c26 : 0 ≤ x12_4
                            · rw [if_pos c26] at H
                              have c26b0 : decide (0 ≤ x12_4) = true := decide_eq_true c26
                              clear c26
                              by_cases c27 : 0 ≤ (rd l0_1 x12_4)
                              · rw [if_pos c27] at H
                                have c27b0 : decide (0 ≤ (rd l0_1 x12_4)) = true := decide_eq_true c27
                                clear c27
                                by_cases c28 : (rd l0_1 x12_4) < (x8_3.length : Int)
                                · rw [if_pos c28] at H
                                  have c28b0 : decide ((rd l0_1 x12_4) < (x8_3.length : Int)) = true := decide_eq_true c28
                                  clear c28
                                  by_cases c29 : x12_4 < (l0_2.length : Int)
                                  · rw [if_pos c29] at H
                                    have c29b0 : decide (x12_4 < (l0_2.length : Int)) = true := decide_eq_true c29
                                    clear c29
                                    by_cases c30 : 0 ≤ (rd l0_2 x12_4)
                                    · rw [if_pos c30] at H
                                      have c30b0 : decide (0 ≤ (rd l0_2 x12_4)) = true := decide_eq_true c30
                                      clear c30
                                      by_cases c31 : (rd l0_2 x12_4) < (x8_3.length : Int)
                                      · rw [if_pos c31] at H
                                        have c31b0 : decide ((rd l0_2 x12_4) < (x8_3.length : Int)) = true := decide_eq_true c31
                                        clear c31
                                        have H' := Aside0.mk H
                                        clear H
                                        have hcz32_0 : wr.cell? ⟨gb110, 0, none⟩ = some (.int .i64 a0_0) := (blk_cell BK110.out 0).trans rfl
                                        have hcz32_1 : wr.cell? ⟨gb110, 1, none⟩ = some (.slice A0_1 l0_1.length c0_1) := (blk_cell BK110.out 1).trans rfl
                                        have hcz32_2 : wr.cell? ⟨gb110, 2, none⟩ = some (.slice A0_2 l0_2.length c0_2) := (blk_cell BK110.out 2).trans rfl
                                        have hfz32_0 := blk_frozen BK110.out 0; have hfz32_1 := blk_frozen BK110.out 1; have hfz32_2 := blk_frozen BK110.out 2
                                        have p120 : 0 ≤ (x12_4 : Int) := of_decide_eq_true sqA
                                        have q120 : x12_4 < (l0_1.length : Int) := of_decide_eq_true sqA
                                        obtain ⟨ad120, e120, hx120_0⟩ := Kd.at_int HR0_1.out x12_4 p120 q120
                                        cases e120
                                        replace hx120_0 := (HB.out.cell (World.block_lt_of_cell? w _ hx120_0)).trans hx120_0
                                        replace p120 := eq_true p120
                                        replace q120 := eq_true q120
                                        obtain ⟨Ao33, co33, eo33⟩ := Kd.R_slice HO_8.out
                                        subst eo33
                                        have p121 : 0 ≤ ((rd l0_1 x12_4) : Int) := of_decide_eq_true sqA
                                        have q121 : (rd l0_1 x12_4) < (x8_3.length : Int) := of_decide_eq_true sqA
                                        obtain ⟨ad121, e121, hx121_0⟩ := Kd.at_int (Kd.R_reads' HO_8.out).2.2 (rd l0_1 x12_4) p121 q121
                                        cases e121
                                        replace p121 := eq_true p121
                                        replace q121 := eq_true q121
                                        have p122 : 0 ≤ (x12_4 : Int) := of_decide_eq_true sqA
                                        have q122 : x12_4 < (l0_2.length : Int) := of_decide_eq_true sqA
                                        obtain ⟨ad122, e122, hx122_0⟩ := Kd.at_int HR0_2.out x12_4 p122 q122
                                        cases e122
                                        replace hx122_0 := (HB.out.cell (World.block_lt_of_cell? w _ hx122_0)).trans hx122_0
                                        replace p122 := eq_true p122
                                        replace q122 := eq_true q122
                                        have p123 : 0 ≤ ((rd l0_2 x12_4) : Int) := of_decide_eq_true sqA
                                        have q123 : (rd l0_2 x12_4) < (x8_3.length : Int) := of_decide_eq_true sqA
                                        obtain ⟨ad123, e123, hx123_0⟩ := Kd.at_int (Kd.R_reads' HO_8.out).2.2 (rd l0_2 x12_4) p123 q123
                                        obtain rfl : ad121 = ad123 := (by injection e123)
                                        replace p123 := eq_true p123
                                        replace q123 := eq_true q123
                                        go_wp2
                                        repeat (go_quiet (fail); try go_wp2)
                                        go_roundg k4
                                        case measure => have := HJ2.out; have := HK2.out; have := HK3.out; have := HK4.out; omega
                                        case rel => exact ⟨(((rd x8_3 (rd l0_1 x12_4)) != (rd x8_3 (rd l0_2 x12_4)))), (wrap64 (x12_4 + 1)), (sqD), (sqD), H', ⟨by have := HJ2.out; have := HK2.out; have := HK3.out; have := HK4.out; omega⟩, ⟨sqR HO_8.out⟩, ⟨sqK BK110.out⟩, ⟨sqB⟩⟩
                                      · rw [if_neg c31] at H
                                        exact absurd H (by simp)
                                    · rw [if_neg c30] at H
                                      exact absurd H (by simp)
                                  · rw [if_neg c29] at H
                                    exact absurd H (by simp)
                                · rw [if_neg c28] at H
                                  exact absurd H (by simp)
                              · rw [if_neg c27] at H
                                exact absurd H (by simp)
                            · rw [if_neg c26] at H
                              exact absurd H (by simp)
                          · replace c25 := Bool.eq_false_iff.mpr c25
                            subst c25
                            have H1 : (spec_Colourings.l2 k4 a1 x5_2 t113 x7_2 x8_3 false (wrap64 (x12_4 + 1)) a0_0 l0_1 l0_2) = some r := by rw [if_neg (show ¬ (false = true) by decide)] at H; exact H
                            clear H
                            have H := H1
                            clear H1
                            have H' := Aside0.mk H
                            clear H
                            have hcz34_0 : wr.cell? ⟨gb110, 0, none⟩ = some (.int .i64 a0_0) := (blk_cell BK110.out 0).trans rfl
                            have hcz34_1 : wr.cell? ⟨gb110, 1, none⟩ = some (.slice A0_1 l0_1.length c0_1) := (blk_cell BK110.out 1).trans rfl
                            have hcz34_2 : wr.cell? ⟨gb110, 2, none⟩ = some (.slice A0_2 l0_2.length c0_2) := (blk_cell BK110.out 2).trans rfl
                            have hfz34_0 := blk_frozen BK110.out 0; have hfz34_1 := blk_frozen BK110.out 1; have hfz34_2 := blk_frozen BK110.out 2
                            go_wp2
                            repeat (go_quiet (fail); try go_wp2)
                            go_roundg k4
                            case measure => have := HJ2.out; have := HK2.out; have := HK3.out; have := HK4.out; omega
                            case rel => exact ⟨(false), (wrap64 (x12_4 + 1)), (sqD), (sqD), H', ⟨by have := HJ2.out; have := HK2.out; have := HK3.out; have := HK4.out; omega⟩, ⟨sqR HO_8.out⟩, ⟨sqK BK110.out⟩, ⟨sqB⟩⟩
                        · rw [if_neg c24] at H
                          have c24b0 : decide (x12_4 < (l0_1.length : Int)) = false := decide_eq_false c24
                          clear c24
                          replace H := Option.bind_eq_some_iff.mp H
                          obtain ⟨t124, A350, H⟩ := H
                          replace H : (spec_Colourings.l0 k4 a1 (wrap64 (x5_2 + t124)) t113 (wrap64 (x7_2 + 1)) a0_0 l0_1 l0_2) = some r := H
                          have A35 := Aside0.mk A350
                          clear A350
                          have H' := Aside0.mk H
                          clear H
                          have hcz36_0 : wr.cell? ⟨gb110, 0, none⟩ = some (.int .i64 a0_0) := (blk_cell BK110.out 0).trans rfl
                          have hcz36_1 : wr.cell? ⟨gb110, 1, none⟩ = some (.slice A0_1 l0_1.length c0_1) := (blk_cell BK110.out 1).trans rfl
                          have hcz36_2 : wr.cell? ⟨gb110, 2, none⟩ = some (.slice A0_2 l0_2.length c0_2) := (blk_cell BK110.out 2).trans rfl
                          have hfz36_0 := blk_frozen BK110.out 0; have hfz36_1 := blk_frozen BK110.out 1; have hfz36_2 := blk_frozen BK110.out 2
                          go_wp2_with (first | (go_at_call 45; (try simp only [i64_w, i32_w]); (with_reducible refine (spec_l1Bit.calls x11_4 t124 _ A35.out).mono ?_); rintro e w' ⟨rfl, ⟨nd, rfl⟩⟩; (try first | exact ⟨rfl, _, World.drewN_drewN _ _ _⟩ | exact ⟨rfl, _, Eq.trans (World.drewN_drewN _ _ _) (congrArg (World.drewN _) (Nat.add_assoc _ _ _))⟩)))
                          repeat (go_quiet (first | (go_at_call 45; (try simp only [i64_w, i32_w]); (with_reducible refine (spec_l1Bit.calls x11_4 t124 _ A35.out).mono ?_); rintro e w' ⟨rfl, ⟨nd, rfl⟩⟩; (try first | exact ⟨rfl, _, World.drewN_drewN _ _ _⟩ | exact ⟨rfl, _, Eq.trans (World.drewN_drewN _ _ _) (congrArg (World.drewN _) (Nat.add_assoc _ _ _))⟩))); try go_wp2_with (first | (go_at_call 45; (try simp only [i64_w, i32_w]); (with_reducible refine (spec_l1Bit.calls x11_4 t124 _ A35.out).mono ?_); rintro e w' ⟨rfl, ⟨nd, rfl⟩⟩; (try first | exact ⟨rfl, _, World.drewN_drewN _ _ _⟩ | exact ⟨rfl, _, Eq.trans (World.drewN_drewN _ _ _) (congrArg (World.drewN _) (Nat.add_assoc _ _ _))⟩))))
                          go_roundg k4
                          case measure => have := HJ2.out; have := HK2.out; have := HK3.out; have := HK4.out; omega
                          case rel => exact ⟨(wrap64 (x5_2 + t124)), (wrap64 (x7_2 + 1)), (sqD), (sqD), H', ⟨by have := HJ2.out; have := HK2.out; have := HK3.out; have := HK4.out; omega⟩, ⟨sqK BK110.out⟩, ⟨sqB⟩⟩
            · rw [if_neg c15] at H
              have c15b0 : decide (x7_2 < t113) = false := decide_eq_false c15
              clear c15
              obtain rfl := Option.some.inj H
              go_wp2
              repeat (go_quiet (fail); try go_wp2)
              go_ret
              exact ⟨sqE, sqB⟩

end Go.Proofs.Ytopkfhnnapncgaa.F
end
section
namespace Go.Proofs.Ytopkfhnnapncgaa.F
open Go.RowKit Go.Proofs.YtopkfhnnapncgaaW.PrintWords Go.Proofs.YtopkfhnnapncgaaW.PrintLast Go.Proofs.YtopkfhnnapncgaaW.PrintMore
theorem box_fill {w w1 : World} {g : Nat} {t : TypeId} {u v : Value} (hg : g = w.heap.size) (hbox : w1.heap[g]? = some (.cells #[u] t (0, 0))) (hb : Below w.heap.size w w1) :
    (w1.setCell ⟨g, 0, none⟩ v).heap[g]? = some (.cells #[v] t (0, 0)) ∧ Below w.heap.size w (w1.setCell ⟨g, 0, none⟩ v) :=
  ⟨(blk_set hbox 0 v).trans rfl, below_set hb (by rw [hg]; exact Nat.le_refl _)⟩
end Go.Proofs.Ytopkfhnnapncgaa.F
end
section
namespace Go.Proofs.Ytopkfhnnapncgaa.F
open Go.RowKit Go.Proofs.YtopkfhnnapncgaaW.PrintWords Go.Proofs.YtopkfhnnapncgaaW.PrintLast Go.Proofs.YtopkfhnnapncgaaW.PrintMore
set_option linter.unusedSimpArgs false
set_option linter.unusedVariables false
/-- Function g, bound to lb, answers on a row of numbers as1 the partial function q says, in every world in which all that lay in w lies unturned. -/
def PredL (g : Nat) (lb : Array Value) (q : List Int → Option Bool) (w : World) : Prop :=
  ∀ (W : World) (A : Option Addr) (c : Nat) (l : List Int) (r : Bool), q l = some r → Below w.heap.size w W → Kd.C (Kd.int .i64) W A l.length l → l.length ≤ c → Calls Try.prog g (#[.slice A l.length c] ++ lb) W fun e W' => e = .returned (.bool r) ∧ Below W.heap.size W W'
mutual
def fillO (q : List Int → Option Bool) (n lo hi : Int) : Nat → List Int → Int → Option (Int × List Int)
  | 0, _, _ => none
  | k + 1, l, p => if p = n then ((q l).bind fun b => some (if b = true then 1 else 0, l)) else fillL q n lo hi k l p 0 lo
def fillL (q : List Int → Option Bool) (n lo hi : Int) : Nat → List Int → Int → Int → Int → Option (Int × List Int)
  | 0, _, _, _, _ => none
  | k + 1, l, p, sum, x => if x ≤ hi then (if 0 ≤ p then (if p < (l.length : Int) then ((fillO q n lo hi k (l.set p.toNat x) (wrap64 (p + 1))).bind fun t => fillL q n lo hi k t.2 p (wrap64 (sum + t.1)) (wrap64 (x + 1))) else none) else none) else some (sum, l)
end
def caps (gn gr gl go gh gf : Nat) : Array Value := #[.pointer (some ⟨gn, 0, none⟩), .pointer (some ⟨gr, 0, none⟩), .pointer (some ⟨gl, 0, none⟩), .pointer (some ⟨go, 0, none⟩), .pointer (some ⟨gh, 0, none⟩), .pointer (some ⟨gf, 0, none⟩)]
/-- What lies in memory while countAll's literal works: its boxes, and the list's own row. -/
structure CS (w0 W : World) (base gn gr gl go gh gf : Nat) (n lo hi : Int) (g : Nat) (lb : Array Value) (A : Option Addr) (cap m : Nat) (l : List Int) : Prop where
  len : l.length = m
  fn : W.heap[gn]? = some (.cells #[.int .i64 n] 3 (0, 0))
  fo : W.heap[go]? = some (.cells #[.int .i64 lo] 3 (0, 0))
  fh : W.heap[gh]? = some (.cells #[.int .i64 hi] 3 (0, 0))
  fr : W.heap[gr]? = some (.cells #[.func (.func g) #[] lb] 55 (0, 0))
  fl : W.heap[gl]? = some (.cells #[.slice A m cap] 22 (0, 0))
  ff : W.heap[gf]? = some (.cells #[.func (.func 69) #[] (caps gn gr gl go gh gf)] 66 (0, 0))
  R : Kd.R (Kd.int .i64) 3 W base (fun _ => True) (.slice A m cap) l
  B : Below w0.heap.size w0 W
  b0 : w0.heap.size ≤ base
  bn : gn < base
  bo : go < base
  bh : gh < base
section
variable {w0 W : World} {base gn gr gl go gh gf : Nat} {n lo hi : Int} {g : Nat} {lb : Array Value} {A : Option Addr} {cap m : Nat} {l : List Int}
theorem CS.below (s : CS w0 W base gn gr gl go gh gf n lo hi g lb A cap m l) {W2 : World} (hb : Below W.heap.size W W2) : CS w0 W2 base gn gr gl go gh gf n lo hi g lb A cap m l where
  len := s.len
  fn := blk_below s.fn hb
  fo := blk_below s.fo hb
  fh := blk_below s.fh hb
  fr := blk_below s.fr hb
  fl := blk_below s.fl hb
  ff := blk_below s.ff hb
  R := Kd.R_below s.R hb
  B := below_step s.B hb
  b0 := s.b0
  bn := s.bn
  bo := s.bo
  bh := s.bh
theorem CS.put {ga : Nat} (s : CS w0 W base gn gr gl go gh gf n lo hi g lb (some ⟨ga, 0, none⟩) cap m l) (hga : base ≤ ga) (i x : Int) : CS w0 (W.setCell ⟨ga, i.toNat, none⟩ (.int .i64 x)) base gn gr gl go gh gf n lo hi g lb (some ⟨ga, 0, none⟩) cap m (l.set i.toNat x) := by
  have HP := Kd.R_putg s.R i x
  have hne : ∀ k, k < base → some k ≠ some ga := fun k hk e => by injection e; omega
  exact ⟨by simp [s.len], blk_grown s.fn HP.2 (hne _ s.bn), blk_grown s.fo HP.2 (hne _ s.bo), blk_grown s.fh HP.2 (hne _ s.bh), blk_grown s.fr HP.2 (Kd.R_ne s.R s.fr (by decide)), blk_grown s.fl HP.2 (Kd.R_ne s.R s.fl (by decide)), blk_grown s.ff HP.2 (Kd.R_ne s.R s.ff (by decide)),
    HP.1, below_set s.B (Nat.le_trans s.b0 hga), s.b0, s.bn, s.bo, s.bh⟩
end
set_option maxHeartbeats 8000000 in
set_option maxRecDepth 100000 in
theorem fill_calls (q : List Int → Option Bool) (w0 : World) (base gn gr gl go gh gf : Nat) (n lo hi : Int) (g : Nat) (lb : Array Value) (A : Option Addr) (cap m : Nat) (eg : ∀ args w, (callFunc g args).run Try.prog w = .ok (.enter g args) w) (hp : PredL g lb q w0) :
    ∀ (k : Nat) (l : List Int) (p r : Int) (l' : List Int) (W : World), fillO q n lo hi k l p = some (r, l') → CS w0 W base gn gr gl go gh gf n lo hi g lb A cap m l →
      Calls Try.prog 69 (#[.int .i64 p] ++ caps gn gr gl go gh gf) W fun e W' => e = .returned (.int .i64 r) ∧ CS w0 W' base gn gr gl go gh gf n lo hi g lb A cap m l' := by
  intro k
  induction k using Nat.strongRecOn with
  | ind k IH0 =>
  intro l p r l' W h hs
  have IH := Aside0.mk IH0
  have HP := Aside0.mk hp
  clear IH0
  cases k with
  | zero => exact absurd h (by simp [fillO])
  | succ k1 =>
  simp only [fillO] at h
  have HS := Aside0.mk hs
  clear hs
  have hcn : W.cell? ⟨gn, 0, none⟩ = some (.int .i64 n) := (blk_cell HS.out.fn 0).trans rfl
  have hcr : W.cell? ⟨gr, 0, none⟩ = some (.func (.func g) #[] lb) := (blk_cell HS.out.fr 0).trans rfl
  have hcl : W.cell? ⟨gl, 0, none⟩ = some (.slice A m cap) := (blk_cell HS.out.fl 0).trans rfl
  have hco : W.cell? ⟨go, 0, none⟩ = some (.int .i64 lo) := (blk_cell HS.out.fo 0).trans rfl
  by_cases c1 : p = n
  · rw [if_pos c1] at h
    obtain ⟨b, hb, h⟩ := Option.bind_eq_some_iff.mp h
    simp only [Option.some.injEq, Prod.mk.injEq] at h
    obtain ⟨h1, h2⟩ := h
    subst h2
    have HQ := Aside0.mk hb
    have HR := Aside0.mk h1
    clear hb h1 hco
    have c1b0 : (p == n) = true := beq_iff_eq.mpr c1
    have c1b1 : (p != n) = false := bne_eq_false_iff_eq.mpr c1
    clear c1
    unfold caps
    go_enter Try.func69, Try.ntmps69
    go_wp2
    have hl := HS.out.len
    subst hl
    refine (HP.out _ A cap l b HQ.out HS.out.B (Kd.R_reads' HS.out.R).2.2 (Kd.R_reads' HS.out.R).2.1).mono ?_
    rintro e w9 ⟨rfl, hb⟩
    have HS2 := Aside0.mk (HS.out.below hb)
    clear hb HS hcn hcr hcl
    cases b with
    | true =>
      go_wp2
      go_ret
      exact ⟨by rw [← HR.out]; rfl, HS2.out⟩
    | false =>
      go_wp2
      go_ret
      exact ⟨by rw [← HR.out]; rfl, HS2.out⟩
  · rw [if_neg c1] at h
    have H' := Aside0.mk h
    clear h
    have c1b0 : (p == n) = false := beq_eq_false_iff_ne.mpr c1
    have c1b1 : (p != n) = true := bne_iff_ne.mpr c1
    clear c1
    unfold caps
    go_enter Try.func69, Try.ntmps69
    go_wp2
    clear hcn hcr hcl hco
    go_loopg [9, 10] k1 (fun kq v9 v10 w' => ∃ (l1 : List Int) (sum x : Int), v9 = .int .i64 sum ∧ v10 = .int .i64 x ∧ Aside0 (fillL q n lo hi kq l1 p sum x = some (r, l')) ∧ Aside0 (kq ≤ k1) ∧ Aside0 (CS w0 w' base gn gr gl go gh gf n lo hi g lb A cap m l1))
    case atStart => exact ⟨l, 0, lo, rfl, rfl, H', ⟨Nat.le_refl _⟩, HS⟩
    case round =>
      clear H' HS
      obtain ⟨l1, sum, x, rfl, rfl, HA, HK, HS⟩ := hrel
      cases gk with
      | zero => exact absurd HA.out (by simp [fillL])
      | succ k2 =>
        have H := HA.out
        clear HA
        simp only [fillL] at H
        have hch : wr.cell? ⟨gh, 0, none⟩ = some (.int .i64 hi) := (blk_cell HS.out.fh 0).trans rfl
        have hcl : wr.cell? ⟨gl, 0, none⟩ = some (.slice A m cap) := (blk_cell HS.out.fl 0).trans rfl
        have hcf : wr.cell? ⟨gf, 0, none⟩ = some (.func (.func 69) #[] (caps gn gr gl go gh gf)) := (blk_cell HS.out.ff 0).trans rfl
        by_cases c2 : x ≤ hi
        · rw [if_pos c2] at H
          have c2b0 : decide (x ≤ hi) = true := decide_eq_true c2
          clear c2
          by_cases c3 : 0 ≤ p
          case neg => rw [if_neg c3] at H; exact absurd H (by simp)
          rw [if_pos c3] at H
          by_cases c4 : p < (l1.length : Int)
          case neg => rw [if_neg c4] at H; exact absurd H (by simp)
          rw [if_pos c4] at H
          obtain ⟨⟨t1, t2⟩, ht, H⟩ := Option.bind_eq_some_iff.mp H
          have HT := Aside0.mk ht
          have H' := Aside0.mk H
          clear ht H
          have hl := HS.out.len
          obtain ⟨ga, co, eo, gb, gl2, cl, HG⟩ := Kd.R_form HS.out.R (by omega)
          injection eo with ea en ec
          subst ea
          have GB := Aside0.mk gb
          clear gb gl2 HG ec en
          have c3b0 : decide (0 ≤ p) = true := decide_eq_true c3
          have c4b0 : decide (p < (m : Int)) = true := decide_eq_true (by omega)
          obtain ⟨hx0, hf0⟩ := Kd.R_celln 0 HS.out.R p c3 (by omega)
          have c3t := eq_true c3
          have c4t := eq_true (show p < (m : Int) by omega)
          have HS2 := Aside0.mk (HS.out.put GB.out p x)
          clear c3 c4 hl
          go_wp2_with (first | ((with_reducible refine gate_store (t := 3) (p := 26) rfl ?_); refine store_event (t := 3) (p := 26) (v := ?vo_w11) (w1 := (wr.setCell ⟨ga, p.toNat, none⟩ (.int .i64 x))) ?hg ?ho ?hn ?hr ?_; (case ho => rfl); (case hg => rfl); (case hn => rfl); (case hr => exact sqG); intro w11 hw; rw [← hw] at HS2; clear hw HS hx0 hf0 hch hcl hcf; have hcf : w11.cell? ⟨gf, 0, none⟩ = some (.func (.func 69) #[] (caps gn gr gl go gh gf)) := (blk_cell HS2.out.ff 0).trans rfl))
          refine (IH.out k2 (by have := HK.out; omega) _ _ _ _ _ HT.out HS2.out).mono ?_
          rintro e w12 ⟨rfl, hs⟩
          have HS3 := Aside0.mk hs
          clear hs HS2 hcf
          go_wp2
          go_roundg k2
          case measure => have := HK.out; omega
          case rel => exact ⟨t2, wrap64 (sum + t1), wrap64 (x + 1), rfl, rfl, H', ⟨by have := HK.out; omega⟩, HS3⟩
        · rw [if_neg c2] at H
          simp only [Option.some.injEq, Prod.mk.injEq] at H
          obtain ⟨rfl, rfl⟩ := H
          have c2b0 : decide (x ≤ hi) = false := decide_eq_false c2
          clear c2 hcl hcf
          go_wp2
          go_ret
          exact ⟨rfl, HS.out⟩
def countO (q : List Int → Option Bool) (n lo hi : Int) (k : Nat) : Option Int := if 0 ≤ n then (if n.toNat * 8 ≤ 281474976710656 then ((fillO q n lo hi k (List.replicate n.toNat 0) 0).bind fun t => some t.1) else none) else none
set_option maxHeartbeats 8000000 in
set_option maxRecDepth 100000 in
theorem countAll_calls (q : List Int → Option Bool) (g : Nat) (lb : Array Value) (eg : ∀ args w, (callFunc g args).run Try.prog w = .ok (.enter g args) w) (k : Nat) (n lo hi r : Int) (w : World) (hp : PredL g lb q w) (h : countO q n lo hi k = some r) :
    Calls Try.prog 47 #[.int .i64 n, .int .i64 lo, .int .i64 hi, .func (.func g) #[] lb] w fun e w' => e = .returned (.int .i64 r) ∧ Below w.heap.size w w' := by
  unfold countO at h
  by_cases h0 : 0 ≤ n
  case neg => rw [if_neg h0] at h; exact absurd h (by simp)
  rw [if_pos h0] at h
  by_cases h8 : n.toNat * 8 ≤ 281474976710656
  case neg => rw [if_neg h8] at h; exact absurd h (by simp)
  rw [if_pos h8] at h
  obtain ⟨⟨r1, l1⟩, hf, h⟩ := Option.bind_eq_some_iff.mp h
  simp only [Option.some.injEq] at h
  subst h
  have H0 := Aside0.mk h0
  have H8 := Aside0.mk h8
  have HF := Aside0.mk hf
  have HP := Aside0.mk hp
  have EG := Aside0.mk eg
  have c0b0 : decide (0 ≤ n) = true := decide_eq_true h0
  replace h0 := eq_true h0
  clear h8 hf hp eg
  go_enter Try.func47, Try.ntmps47
  go_wp2_with (first
    | ((with_reducible refine gate_dst (N := 4) rfl ?_); refine box_event ?hg (N := 4) ?hd (cs := #[.int .i64 n]) (t := 3) ?hr ?_; (case hd => rfl); (case hg => rfl); (case hr => exact sqG); intro gn hg w4 hbox hb; have HB4 := Aside0.mk hb; have BKn4 := Aside0.mk hbox; have GN := Aside0.mk (show gn < w4.heap.size from blk_lt hbox); clear hg hbox hb)
    | ((with_reducible refine gate_dst (N := 5) rfl ?_); refine box_event ?hg (N := 5) ?hd (cs := #[.int .i64 lo]) (t := 3) ?hr ?_; (case hd => rfl); (case hg => rfl); (case hr => exact sqG); intro go_ hg w5 hbox hb; have HB5 := Aside0.mk (below_step HB4.out hb); have BKn5 := Aside0.mk (blk_below BKn4.out hb); have BKo5 := Aside0.mk hbox; clear HB4 BKn4 hg hbox hb)
    | ((with_reducible refine gate_dst (N := 6) rfl ?_); refine box_event ?hg (N := 6) ?hd (cs := #[.int .i64 hi]) (t := 3) ?hr ?_; (case hd => rfl); (case hg => rfl); (case hr => exact sqG); intro gh hg w6 hbox hb; have HB6 := Aside0.mk (below_step HB5.out hb); have BKn6 := Aside0.mk (blk_below BKn5.out hb); have BKo6 := Aside0.mk (blk_below BKo5.out hb); have BKh6 := Aside0.mk hbox; clear HB5 BKn5 BKo5 hg hbox hb)
    | ((with_reducible refine gate_dst (N := 7) rfl ?_); refine box_event ?hg (N := 7) ?hd (cs := #[.func (.func g) #[] lb]) (t := 55) ?hr ?_; (case hd => rfl); (case hg => rfl); (case hr => exact sqG); intro gr hg w7 hbox hb; have HB7 := Aside0.mk (below_step HB6.out hb); have BKn7 := Aside0.mk (blk_below BKn6.out hb); have BKo7 := Aside0.mk (blk_below BKo6.out hb); have BKh7 := Aside0.mk (blk_below BKh6.out hb); have BKr7 := Aside0.mk hbox; clear HB6 BKn6 BKo6 BKh6 hg hbox hb; have hcn : w7.cell? ⟨gn, 0, none⟩ = some (.int .i64 n) := (blk_cell BKn7.out 0).trans rfl)
    | ((with_reducible refine gate_dst (N := 12) rfl ?_); refine Kd.R_make (Kd.int .i64) _ 3 rfl (N := 12) rfl 22 _ _ rfl n rfl rfl Try.underlying22 (.int .i64 0) 8 info3 rfl (by decide) (by omega) 0 (ok := fun _ => True) (okp := fun _ => True) rfl (fun _ hk => hk) trivial H0.out H8.out (Below.refl _ _) (Nat.le_refl _) ?_; intro v12 w8 ho hb hg_ hnew_; obtain ⟨A, cap, eA⟩ := Kd.R_slice ho; subst eA; have HO8 := Aside0.mk ho; have HB8 := Aside0.mk hb; clear ho hb hg_ hnew_ hcn)
    | ((with_reducible refine gate_dst (N := 9) rfl ?_); refine box_event ?hg (N := 9) ?hd (cs := #[.slice none 0 0]) (t := 22) ?hr ?_; (case hd => rfl); (case hg => rfl); (case hr => exact sqG); intro gl hg w9 hbox hb; have HG9 := Aside0.mk hg; have BK9 := Aside0.mk hbox; have HB9 := Aside0.mk hb; have hca : w9.cell? ⟨gl, 0, none⟩ = some (.slice none 0 0) := (blk_cell BK9.out 0).trans rfl; have hfa := blk_frozen BK9.out 0; clear hg hbox hb)
    | ((with_reducible refine gate_store (t := 22) (p := 9) rfl ?_); refine store_event (t := 22) (p := 9) (v := ?vo_w10) (w1 := (w9.setCell ⟨gl, 0, none⟩ (.slice A (List.replicate n.toNat (0 : Int)).length cap))) ?hg ?ho ?hn ?hr ?_; (case ho => rfl); (case hg => rfl); (case hn => rfl); (case hr => exact sqG); intro w10 hw; have hp_ := box_fill (v := .slice A (List.replicate n.toNat (0 : Int)).length cap) HG9.out BK9.out HB9.out; rw [← hw] at hp_; have BKl10 := Aside0.mk hp_.1; have HB10 := Aside0.mk hp_.2; clear hp_ hw HG9 BK9 HB9 hca hfa)
    | ((with_reducible refine gate_dst (N := 10) rfl ?_); refine box_event ?hg (N := 10) ?hd (cs := #[.nilFunc]) (t := 66) ?hr ?_; (case hd => rfl); (case hg => rfl); (case hr => exact sqG); intro gf hg w11 hbox hb; have HG11 := Aside0.mk hg; have BK11 := Aside0.mk hbox; have HB11 := Aside0.mk hb; have hca : w11.cell? ⟨gf, 0, none⟩ = some .nilFunc := (blk_cell BK11.out 0).trans rfl; have hfa := blk_frozen BK11.out 0; clear hg hbox hb)
    | ((with_reducible refine gate_store (t := 66) (p := 10) rfl ?_); refine store_event (t := 66) (p := 10) (v := ?vo_w12) (w1 := (w11.setCell ⟨gf, 0, none⟩ (.func (.func 69) #[] (caps gn gr gl go_ gh gf)))) ?hg ?ho ?hn ?hr ?_; (case ho => rfl); (case hg => rfl); (case hn => rfl); (case hr => exact sqG); intro w12 hw; have hp_ := box_fill (v := .func (.func 69) #[] (caps gn gr gl go_ gh gf)) HG11.out BK11.out HB11.out; rw [← hw] at hp_; have BKf12 := Aside0.mk hp_.1; have HB12 := Aside0.mk hp_.2; clear hp_ hw HG11 BK11 HB11 hca hfa; have hcf : w12.cell? ⟨gf, 0, none⟩ = some (.func (.func 69) #[] (caps gn gr gl go_ gh gf)) := (blk_cell BKf12.out 0).trans rfl))
  have hb12 : Below w7.heap.size w7 w12 := below_step HB8.out (below_step HB10.out HB12.out)
  have HS : CS w w12 w7.heap.size gn gr gl go_ gh gf n lo hi g lb A cap (List.replicate n.toNat (0 : Int)).length (List.replicate n.toNat 0) :=
    ⟨rfl, blk_below BKn7.out hb12, blk_below BKo7.out hb12, blk_below BKh7.out hb12, blk_below BKr7.out hb12, blk_below BKl10.out HB12.out, BKf12.out, Kd.R_below HO8.out (below_step HB10.out HB12.out), below_step HB7.out hb12, below_size HB7.out, blk_lt BKn7.out, blk_lt BKo7.out, blk_lt BKh7.out⟩
  refine (fill_calls q w w7.heap.size gn gr gl go_ gh gf n lo hi g lb A cap _ EG.out HP.out k _ 0 r1 l1 w12 HF.out HS).mono ?_
  rintro e w13 ⟨rfl, hs⟩
  have HB := Aside0.mk hs.B
  clear hs HS hb12 hcf
  go_wp2
  go_ret
  exact ⟨rfl, HB.out⟩
end Go.Proofs.Ytopkfhnnapncgaa.F
end
section
namespace Go.Proofs.Ytopkfhnnapncgaa.F
open Go.RowKit Go.Proofs.YtopkfhnnapncgaaW.PrintWords Go.Proofs.YtopkfhnnapncgaaW.PrintLast Go.Proofs.YtopkfhnnapncgaaW.PrintMore
set_option linter.unusedSimpArgs false
set_option linter.unusedVariables false
/-- Do the two ends of each edge from the i-th on differ in colour? -/
def colO (F T l : List Int) : Nat → Int → Option Bool
  | 0, _ => none
  | k + 1, i => if i < (F.length : Int) then (if 0 ≤ i then (if i < (T.length : Int) then (if 0 ≤ rd F i then (if rd F i < (l.length : Int) then (if 0 ≤ rd T i then (if rd T i < (l.length : Int) then (if rd l (rd F i) = rd l (rd T i) then some false else colO F T l k (wrap64 (i + 1))) else none) else none) else none) else none) else none) else none) else some true
def colQ (F T l : List Int) : Option Bool := colO F T l (F.length + 1) 0
def impl_Colourings.f (k : Nat) (a0_0 : Int) (l0_1 l0_2 : List Int) (a1 : Int) : Option Int := (impl_IsGraph.f k a0_0 l0_1 l0_2).bind fun t => if t = true then (if a1 < 0 then some (-1) else (if a1 > 4 then some (-1) else countO (colQ l0_1 l0_2) a0_0 0 (wrap64 (a1 - 1)) k)) else some (-1)
set_option maxHeartbeats 8000000 in
set_option maxRecDepth 100000 in
theorem impl_Colourings.pred (V : Int) (F T : List Int) (AF AT : Option Addr) (cF cT gG : Nat) (w : World) (hm : w.heap[gG]? = some (.cells #[.int .i64 V, .slice AF F.length cF, .slice AT T.length cT] 34 (0, 0)))
    (hF : Kd.C (Kd.int .i64) w AF F.length F) (hT : Kd.C (Kd.int .i64) w AT T.length T) : PredL 48 #[.pointer (some ⟨gG, 0, none⟩)] (colQ F T) w := by
  intro W A c l r hq hb hr hc
  unfold colQ at hq
  have H' := Aside0.mk hq
  have BK := Aside0.mk (blk_below hm hb)
  have HF := Aside0.mk (Kd.C_below hF hb)
  have HT := Aside0.mk (Kd.C_below hT hb)
  have HR := Aside0.mk hr
  clear hq hm hF hT hr hb hc
  have hug := Try.underlying34
  have hc1 : W.cell? ⟨gG, 1, none⟩ = some (.slice AF F.length cF) := (blk_cell BK.out 1).trans rfl
  go_enter Try.func48, Try.ntmps48
  go_wp2
  clear hc1
  go_loopg [8] (F.length + 1) (fun kq v8 w' => ∃ (i : Int), v8 = .int .i64 i ∧ Aside0 (colO F T l kq i = some r) ∧ Aside0 (kq ≤ F.length + 1) ∧ Aside0 (Below W.heap.size W w'))
  case atStart => exact ⟨0, rfl, H', ⟨Nat.le_refl _⟩, ⟨by repeat (first | exact Below.refl _ _ | apply below_drew1 | apply pw_below_drewN)⟩⟩
  case round =>
    clear H'
    obtain ⟨i, rfl, HA, HK, HB⟩ := hrel
    cases gk with
    | zero => exact absurd HA.out (by simp [colO])
    | succ k1 =>
      have H := HA.out
      clear HA
      simp only [colO] at H
      have hc1 : wr.cell? ⟨gG, 1, none⟩ = some (.slice AF F.length cF) := (blk_cell (blk_below BK.out HB.out) 1).trans rfl
      have hc2 : wr.cell? ⟨gG, 2, none⟩ = some (.slice AT T.length cT) := (blk_cell (blk_below BK.out HB.out) 2).trans rfl
      by_cases c1 : i < (F.length : Int)
      · rw [if_pos c1] at H
        by_cases c2 : 0 ≤ i
        case neg => rw [if_neg c2] at H; exact absurd H (by simp)
        rw [if_pos c2] at H
        by_cases c3 : i < (T.length : Int)
        case neg => rw [if_neg c3] at H; exact absurd H (by simp)
        rw [if_pos c3] at H
        obtain ⟨adF, eF, hxF⟩ := Kd.at_int (Kd.C_below HF.out HB.out) i c2 c1
        obtain ⟨adT, eT, hxT⟩ := Kd.at_int (Kd.C_below HT.out HB.out) i c2 c3
        have c1b0 : decide (i < (F.length : Int)) = true := decide_eq_true c1
        have c2b0 : decide (0 ≤ i) = true := decide_eq_true c2
        have c3b0 : decide (i < (T.length : Int)) = true := decide_eq_true c3
        replace c1 := eq_true c1
        replace c2 := eq_true c2
        replace c3 := eq_true c3
        by_cases c4 : 0 ≤ rd F i
        case neg => rw [if_neg c4] at H; exact absurd H (by simp)
        rw [if_pos c4] at H
        by_cases c5 : rd F i < (l.length : Int)
        case neg => rw [if_neg c5] at H; exact absurd H (by simp)
        rw [if_pos c5] at H
        by_cases c6 : 0 ≤ rd T i
        case neg => rw [if_neg c6] at H; exact absurd H (by simp)
        rw [if_pos c6] at H
        by_cases c7 : rd T i < (l.length : Int)
        case neg => rw [if_neg c7] at H; exact absurd H (by simp)
        rw [if_pos c7] at H
        obtain ⟨adA, eA, hxA⟩ := Kd.at_int (Kd.C_below HR.out HB.out) (rd F i) c4 c5
        obtain ⟨adB, eB, hxB⟩ := Kd.at_int (Kd.C_below HR.out HB.out) (rd T i) c6 c7
        cases eF
        cases eT
        cases eA
        cases eB
        have c4b0 : decide (0 ≤ rd F i) = true := decide_eq_true c4
        have c5b0 : decide (rd F i < (l.length : Int)) = true := decide_eq_true c5
        have c6b0 : decide (0 ≤ rd T i) = true := decide_eq_true c6
        have c7b0 : decide (rd T i < (l.length : Int)) = true := decide_eq_true c7
        replace c4 := eq_true c4
        replace c5 := eq_true c5
        replace c6 := eq_true c6
        replace c7 := eq_true c7
        by_cases c8 : rd l (rd F i) = rd l (rd T i)
        · rw [if_pos c8] at H
          obtain rfl := Option.some.inj H
          have c8b0 : (rd l (rd F i) == rd l (rd T i)) = true := beq_iff_eq.mpr c8
          have c8b1 : (rd l (rd F i) != rd l (rd T i)) = false := bne_eq_false_iff_eq.mpr c8
          clear c8 H
          go_wp2
          repeat (go_quiet (skip); try go_wp2)
          go_ret
          exact ⟨by first | rfl | (simp; done), by repeat (first | exact HB.out | apply below_drew1 | apply pw_below_drewN)⟩
        · rw [if_neg c8] at H
          have H' := Aside0.mk H
          have c8b0 : (rd l (rd F i) == rd l (rd T i)) = false := beq_eq_false_iff_ne.mpr c8
          have c8b1 : (rd l (rd F i) != rd l (rd T i)) = true := bne_iff_ne.mpr c8
          clear c8 H
          go_wp2
          repeat (go_quiet (skip); try go_wp2)
          go_roundg k1
          case measure => have := HK.out; omega
          case rel => exact ⟨wrap64 (i + 1), rfl, H', ⟨by have := HK.out; omega⟩, ⟨by repeat (first | exact HB.out | apply below_drew1 | apply pw_below_drewN)⟩⟩
      · rw [if_neg c1] at H
        obtain rfl := Option.some.inj H
        have c1b0 : decide (i < (F.length : Int)) = false := decide_eq_false c1
        clear c1 H
        go_wp2
        go_ret
        exact ⟨rfl, by repeat (first | exact HB.out | apply below_drew1 | apply pw_below_drewN)⟩
set_option maxHeartbeats 8000000 in
set_option maxRecDepth 100000 in
theorem impl_Colourings.calls (k : Nat) (a0_0 : Int) (A0_1 : Option Addr) (c0_1 : Nat) (l0_1 : List Int) (A0_2 : Option Addr) (c0_2 : Nat) (l0_2 : List Int) (a1 : Int) (r : Int) (w : World) (hr0_1 : Kd.C (Kd.int .i64) w A0_1 l0_1.length l0_1) (hc0_1 : l0_1.length ≤ c0_1) (hr0_2 : Kd.C (Kd.int .i64) w A0_2 l0_2.length l0_2) (hc0_2 : l0_2.length ≤ c0_2) (h : impl_Colourings.f k a0_0 l0_1 l0_2 a1 = some r) :
    Calls Try.prog 19 #[.agg #[.int .i64 a0_0, .slice A0_1 l0_1.length c0_1, .slice A0_2 l0_2.length c0_2], .int .i64 a1] w fun e w' => e = .returned (.int .i64 r) ∧ Below w.heap.size w w' := by
  have hug := Try.underlying34
  unfold impl_Colourings.f at h
  obtain ⟨t, ht, h⟩ := Option.bind_eq_some_iff.mp h
  have HR1 := Aside0.mk hr0_1
  have HC1 := Aside0.mk hc0_1
  have HR2 := Aside0.mk hr0_2
  have HC2 := Aside0.mk hc0_2
  have HT := Aside0.mk ht
  clear hr0_1 hc0_1 hr0_2 hc0_2 ht
  cases t with
  | false =>
    have hn : r = -1 := by simpa using h.symm
    subst hn
    clear h
    go_enter Try.func19, Try.ntmps19
    go_wp2_with (first
      | ((with_reducible refine gate_dst (N := 2) rfl ?_); refine box_event ?hg (N := 2) ?hd (cs := #[.int .i64 a0_0, .slice A0_1 l0_1.length c0_1, .slice A0_2 l0_2.length c0_2]) (t := 34) ?hr ?_; (case hd => rfl); (case hg => rfl); (case hr => exact sqG); intro gG hg w4 hbox hb; have HB := Aside0.mk hb; have BK := Aside0.mk hbox; have hcz0 : w4.cell? ⟨gG, 0, none⟩ = some (.int .i64 a0_0) := (blk_cell BK.out 0).trans rfl; have hcz1 : w4.cell? ⟨gG, 1, none⟩ = some (.slice A0_1 l0_1.length c0_1) := (blk_cell BK.out 1).trans rfl; have hcz2 : w4.cell? ⟨gG, 2, none⟩ = some (.slice A0_2 l0_2.length c0_2) := (blk_cell BK.out 2).trans rfl; clear hg hbox hb)
      | (go_at_call 46; (try simp only [i64_w, i32_w]); (with_reducible refine (impl_IsGraph.calls k a0_0 _ _ l0_1 _ _ l0_2 false _ (Kd.C_below HR1.out HB.out) HC1.out (Kd.C_below HR2.out HB.out) HC2.out HT.out).mono ?_); rintro e w5 ⟨rfl, hb⟩; have HB2 := Aside0.mk (below_step HB.out hb); clear hb hcz0 hcz1 hcz2 BK HB))
    go_ret
    exact ⟨rfl, HB2.out⟩
  | true =>
    simp only [if_true] at h
    by_cases c1 : a1 < 0
    · rw [if_pos c1] at h
      obtain rfl := Option.some.inj h
      have c1b0 : decide (a1 < 0) = true := decide_eq_true c1
      clear h c1
      go_enter Try.func19, Try.ntmps19
      go_wp2_with (first
        | ((with_reducible refine gate_dst (N := 2) rfl ?_); refine box_event ?hg (N := 2) ?hd (cs := #[.int .i64 a0_0, .slice A0_1 l0_1.length c0_1, .slice A0_2 l0_2.length c0_2]) (t := 34) ?hr ?_; (case hd => rfl); (case hg => rfl); (case hr => exact sqG); intro gG hg w4 hbox hb; have HB := Aside0.mk hb; have BK := Aside0.mk hbox; have hcz0 : w4.cell? ⟨gG, 0, none⟩ = some (.int .i64 a0_0) := (blk_cell BK.out 0).trans rfl; have hcz1 : w4.cell? ⟨gG, 1, none⟩ = some (.slice A0_1 l0_1.length c0_1) := (blk_cell BK.out 1).trans rfl; have hcz2 : w4.cell? ⟨gG, 2, none⟩ = some (.slice A0_2 l0_2.length c0_2) := (blk_cell BK.out 2).trans rfl; clear hg hbox hb)
        | (go_at_call 46; (try simp only [i64_w, i32_w]); (with_reducible refine (impl_IsGraph.calls k a0_0 _ _ l0_1 _ _ l0_2 true _ (Kd.C_below HR1.out HB.out) HC1.out (Kd.C_below HR2.out HB.out) HC2.out HT.out).mono ?_); rintro e w5 ⟨rfl, hb⟩; have HB2 := Aside0.mk (below_step HB.out hb); clear hb hcz0 hcz1 hcz2 BK HB))
      go_ret
      exact ⟨rfl, HB2.out⟩
    · rw [if_neg c1] at h
      have c1b0 : decide (a1 < 0) = false := decide_eq_false c1
      clear c1
      by_cases c2 : a1 > 4
      · rw [if_pos c2] at h
        obtain rfl := Option.some.inj h
        have c2b0 : decide (4 < a1) = true := decide_eq_true c2
        have c2b1 : decide (a1 > 4) = true := decide_eq_true c2
        clear h c2
        go_enter Try.func19, Try.ntmps19
        go_wp2_with (first
          | ((with_reducible refine gate_dst (N := 2) rfl ?_); refine box_event ?hg (N := 2) ?hd (cs := #[.int .i64 a0_0, .slice A0_1 l0_1.length c0_1, .slice A0_2 l0_2.length c0_2]) (t := 34) ?hr ?_; (case hd => rfl); (case hg => rfl); (case hr => exact sqG); intro gG hg w4 hbox hb; have HB := Aside0.mk hb; have BK := Aside0.mk hbox; have hcz0 : w4.cell? ⟨gG, 0, none⟩ = some (.int .i64 a0_0) := (blk_cell BK.out 0).trans rfl; have hcz1 : w4.cell? ⟨gG, 1, none⟩ = some (.slice A0_1 l0_1.length c0_1) := (blk_cell BK.out 1).trans rfl; have hcz2 : w4.cell? ⟨gG, 2, none⟩ = some (.slice A0_2 l0_2.length c0_2) := (blk_cell BK.out 2).trans rfl; clear hg hbox hb)
          | (go_at_call 46; (try simp only [i64_w, i32_w]); (with_reducible refine (impl_IsGraph.calls k a0_0 _ _ l0_1 _ _ l0_2 true _ (Kd.C_below HR1.out HB.out) HC1.out (Kd.C_below HR2.out HB.out) HC2.out HT.out).mono ?_); rintro e w5 ⟨rfl, hb⟩; have HB2 := Aside0.mk (below_step HB.out hb); clear hb hcz0 hcz1 hcz2 BK HB))
        go_ret
        exact ⟨rfl, HB2.out⟩
      · rw [if_neg c2] at h
        have c2b0 : decide (4 < a1) = false := decide_eq_false c2
        have c2b1 : decide (a1 > 4) = false := decide_eq_false c2
        have H := Aside0.mk h
        clear h c2
        go_enter Try.func19, Try.ntmps19
        go_wp2_with (first
          | ((with_reducible refine gate_dst (N := 2) rfl ?_); refine box_event ?hg (N := 2) ?hd (cs := #[.int .i64 a0_0, .slice A0_1 l0_1.length c0_1, .slice A0_2 l0_2.length c0_2]) (t := 34) ?hr ?_; (case hd => rfl); (case hg => rfl); (case hr => exact sqG); intro gG hg w4 hbox hb; have HB := Aside0.mk hb; have BK := Aside0.mk hbox; have hcz0 : w4.cell? ⟨gG, 0, none⟩ = some (.int .i64 a0_0) := (blk_cell BK.out 0).trans rfl; have hcz1 : w4.cell? ⟨gG, 1, none⟩ = some (.slice A0_1 l0_1.length c0_1) := (blk_cell BK.out 1).trans rfl; have hcz2 : w4.cell? ⟨gG, 2, none⟩ = some (.slice A0_2 l0_2.length c0_2) := (blk_cell BK.out 2).trans rfl; clear hg hbox hb)
          | (go_at_call 46; (try simp only [i64_w, i32_w]); (with_reducible refine (impl_IsGraph.calls k a0_0 _ _ l0_1 _ _ l0_2 true _ (Kd.C_below HR1.out HB.out) HC1.out (Kd.C_below HR2.out HB.out) HC2.out HT.out).mono ?_); rintro e w5 ⟨rfl, hb⟩; have HB2 := Aside0.mk (below_step HB.out hb); have BK2 := Aside0.mk (blk_below BK.out hb); clear hb hcz0 hcz1 hcz2 BK HB; have hcz0 : w5.cell? ⟨gG, 0, none⟩ = some (.int .i64 a0_0) := (blk_cell BK2.out 0).trans rfl))
        refine (countAll_calls (colQ l0_1 l0_2) _ _ (enters_of Try.func48 (by kernel_rfl) rfl) k a0_0 0 (wrap64 (a1 - 1)) r _ (impl_Colourings.pred a0_0 l0_1 l0_2 _ _ c0_1 c0_2 gG _ BK2.out (Kd.C_below HR1.out HB2.out) (Kd.C_below HR2.out HB2.out)) H.out).mono ?_
        rintro e w7 ⟨rfl, hb⟩
        have HB3 := Aside0.mk (below_step HB2.out hb)
        clear hb hcz0 HB2 BK2
        go_wp2
        go_ret
        exact ⟨rfl, HB3.out⟩
end Go.Proofs.Ytopkfhnnapncgaa.F
end
section
namespace Go.Proofs.Ytopkfhnnapncgaa.F
open Go.RowKit Go.Proofs.YtopkfhnnapncgaaW.PrintWords Go.Proofs.YtopkfhnnapncgaaW.PrintLast Go.Proofs.YtopkfhnnapncgaaW.PrintMore
attribute [local go_sem] max2_int min2_int max_two min_two max_three min_three max_four min_four   -- for this text's walks alone
set_option linter.unusedVariables false
set_option linter.unusedSimpArgs false

def laws_FnExactColourings.f (k : Nat) (a0_0 : Int) (l0_1 : List Int) (l0_2 : List Int) (a1 : Int) : Option (Bool) := (laws_szGraph.f a0_0 l0_1 l0_2 1048576).bind fun t151 => (if t151 < 0 then (some true) else ((laws_toGraph.f k a0_0 l0_1 l0_2).bind fun bt152 => ((spec_Colourings.f k bt152.1 bt152.2.1 bt152.2.2 a1).bind fun t159 => ((laws_toGraph.f k a0_0 l0_1 l0_2).bind fun bt160 => ((impl_Colourings.f k bt160.1 bt160.2.1 bt160.2.2 a1).bind fun t168 => (if t168 = t159 then ((laws_toGraph.f k a0_0 l0_1 l0_2).bind fun bt169 => ((laws_eqGraph.f k bt160.1 bt160.2.1 bt160.2.2 bt169.1 bt169.2.1 bt169.2.2).bind fun t176 => (if t176 = true then (some true) else (none)))) else (none)))))))
set_option maxHeartbeats 8000000 in
set_option maxRecDepth 100000 in
theorem laws_FnExactColourings.calls (k : Nat) (a0_0 : Int) (A0_1 : Option Addr) (c0_1 : Nat) (l0_1 : List Int) (A0_2 : Option Addr) (c0_2 : Nat) (l0_2 : List Int) (a1 : Int) (r : Bool) (w : World) (hr0_1 : Kd.C (Kd.int .i64) w A0_1 l0_1.length l0_1) (hc0_1 : l0_1.length ≤ c0_1) (hr0_2 : Kd.C (Kd.int .i64) w A0_2 l0_2.length l0_2) (hc0_2 : l0_2.length ≤ c0_2) (h : laws_FnExactColourings.f k a0_0 l0_1 l0_2 a1 = some r) :
    Calls Try.prog 4 #[.agg #[.int .i64 a0_0, .slice A0_1 l0_1.length c0_1, .slice A0_2 l0_2.length c0_2], .int .i64 a1] w fun e w' => e = .returned (.bool r) ∧ Below w.heap.size w w' := by
  have hu31 := Try.underlying31
  have hu34 := Try.underlying34
  have HR0_1 := Aside0.mk hr0_1
  have HC0_1 := Aside0.mk hc0_1
  clear hr0_1 hc0_1
  have HR0_2 := Aside0.mk hr0_2
  have HC0_2 := Aside0.mk hc0_2
  clear hr0_2 hc0_2
  have HB := Aside0.mk (Below.refl w.heap.size w)
  have H : ((laws_szGraph.f a0_0 l0_1 l0_2 1048576).bind fun t151 => (if t151 < 0 then (some true) else ((laws_toGraph.f k a0_0 l0_1 l0_2).bind fun bt152 => ((spec_Colourings.f k bt152.1 bt152.2.1 bt152.2.2 a1).bind fun t159 => ((laws_toGraph.f k a0_0 l0_1 l0_2).bind fun bt160 => ((impl_Colourings.f k bt160.1 bt160.2.1 bt160.2.2 a1).bind fun t168 => (if t168 = t159 then ((laws_toGraph.f k a0_0 l0_1 l0_2).bind fun bt169 => ((laws_eqGraph.f k bt160.1 bt160.2.1 bt160.2.2 bt169.1 bt169.2.1 bt169.2.2).bind fun t176 => (if t176 = true then (some true) else (none)))) else (none)))))))) = some r := h
  clear h
  replace H := Option.bind_eq_some_iff.mp H
  obtain ⟨t151, A30, H⟩ := H
  replace H : (if t151 < 0 then (some true) else ((laws_toGraph.f k a0_0 l0_1 l0_2).bind fun bt152 => ((spec_Colourings.f k bt152.1 bt152.2.1 bt152.2.2 a1).bind fun t159 => ((laws_toGraph.f k a0_0 l0_1 l0_2).bind fun bt160 => ((impl_Colourings.f k bt160.1 bt160.2.1 bt160.2.2 a1).bind fun t168 => (if t168 = t159 then ((laws_toGraph.f k a0_0 l0_1 l0_2).bind fun bt169 => ((laws_eqGraph.f k bt160.1 bt160.2.1 bt160.2.2 bt169.1 bt169.2.1 bt169.2.2).bind fun t176 => (if t176 = true then (some true) else (none)))) else (none))))))) = some r := H
  have A3 := Aside0.mk A30
  clear A30
  by_cases c4 : t151 < 0
  · rw [if_pos c4] at H
    have c4b0 : decide (t151 < 0) = true := decide_eq_true c4
    clear c4
    obtain rfl := Option.some.inj H
    go_enter Try.func4, Try.ntmps4
    go_wp2_with (first | ((with_reducible refine gate_dst (N := 2) rfl ?_); refine box_event ?hg (N := 2) ?hd (cs := #[.int .i64 a0_0, .slice A0_1 l0_1.length c0_1, .slice A0_2 l0_2.length c0_2]) (t := 31) ?hr ?_; (case hd => rfl); (case hg => rfl); (case hr => exact sqG); intro gb150 hg w5 hbox hb; have n0_ := Aside0.mk (below_step sqB hb); have n1_ := Aside0.mk (hbox); have n2_ := Aside0.mk ((sqS hg : w.heap.size ≤ gb150)); have n3_ := Aside0.mk ((sqS hg : w.heap.size ≤ gb150)); clear HB; have HB := n0_; have BK150 := n1_; have GW150 := n2_; have GE150 := n3_; clear n0_ n1_ n2_ n3_; clear hb hbox hg; have hcz6_0 : w5.cell? ⟨gb150, 0, none⟩ = some (.int .i64 a0_0) := (blk_cell BK150.out 0).trans rfl; have hcz6_1 : w5.cell? ⟨gb150, 1, none⟩ = some (.slice A0_1 l0_1.length c0_1) := (blk_cell BK150.out 1).trans rfl; have hcz6_2 : w5.cell? ⟨gb150, 2, none⟩ = some (.slice A0_2 l0_2.length c0_2) := (blk_cell BK150.out 2).trans rfl; have hfz6_0 := blk_frozen BK150.out 0; have hfz6_1 := blk_frozen BK150.out 1; have hfz6_2 := blk_frozen BK150.out 2) | ((with_reducible refine gate_callee (f := 16) rfl ?_); refine goesL_ (some 11) rfl rfl Try.func16 (by kernel_rfl) rfl #[.agg #[.int .i64 a0_0, .slice A0_1 l0_1.length c0_1, .slice A0_2 l0_2.length c0_2], .int .i64 1048576] rfl sqM ?_; (with_reducible refine (laws_szGraph.calls a0_0 _ _ l0_1 _ _ l0_2 1048576 t151 _ ?side1 ?side2 ?side3 ?side4 A3.out).mono ?_); (case side1 => exact sqC (Kd.C_below HR0_1.out HB.out)); (case side2 => exact HC0_1.out); (case side3 => exact sqC (Kd.C_below HR0_2.out HB.out)); (case side4 => exact HC0_2.out); rintro e w7 ⟨rfl, hb⟩; refine ⟨_, rfl, ?_⟩; have n0_ := Aside0.mk (blk_below (g := gb150) (o := .cells #[.int .i64 a0_0, .slice A0_1 l0_1.length c0_1, .slice A0_2 l0_2.length c0_2] 31 (0, 0)) (sqK BK150.out) hb); have n1_ := Aside0.mk (below_step sqB hb); clear BK150; clear HB; have BK150 := n0_; have HB := n1_; clear n0_ n1_; (try clear hb); (try clear hb2); (try clear hk); (try clear hi)))
    go_ret
    exact ⟨sqE, sqB⟩
  · rw [if_neg c4] at H
    have c4b0 : decide (t151 < 0) = false := decide_eq_false c4
    clear c4
    replace H := Option.bind_eq_some_iff.mp H
    obtain ⟨⟨t152, t153, t156⟩, A80, H⟩ := H
    replace H : ((spec_Colourings.f k t152 t153 t156 a1).bind fun t159 => ((laws_toGraph.f k a0_0 l0_1 l0_2).bind fun bt160 => ((impl_Colourings.f k bt160.1 bt160.2.1 bt160.2.2 a1).bind fun t168 => (if t168 = t159 then ((laws_toGraph.f k a0_0 l0_1 l0_2).bind fun bt169 => ((laws_eqGraph.f k bt160.1 bt160.2.1 bt160.2.2 bt169.1 bt169.2.1 bt169.2.2).bind fun t176 => (if t176 = true then (some true) else (none)))) else (none))))) = some r := H
    have A8 := Aside0.mk A80
    clear A80
    replace H := Option.bind_eq_some_iff.mp H
    obtain ⟨t159, A90, H⟩ := H
    replace H : ((laws_toGraph.f k a0_0 l0_1 l0_2).bind fun bt160 => ((impl_Colourings.f k bt160.1 bt160.2.1 bt160.2.2 a1).bind fun t168 => (if t168 = t159 then ((laws_toGraph.f k a0_0 l0_1 l0_2).bind fun bt169 => ((laws_eqGraph.f k bt160.1 bt160.2.1 bt160.2.2 bt169.1 bt169.2.1 bt169.2.2).bind fun t176 => (if t176 = true then (some true) else (none)))) else (none)))) = some r := H
    have A9 := Aside0.mk A90
    clear A90
    replace H := Option.bind_eq_some_iff.mp H
    obtain ⟨⟨t160, t161, t164⟩, A100, H⟩ := H
    replace H : ((impl_Colourings.f k t160 t161 t164 a1).bind fun t168 => (if t168 = t159 then ((laws_toGraph.f k a0_0 l0_1 l0_2).bind fun bt169 => ((laws_eqGraph.f k t160 t161 t164 bt169.1 bt169.2.1 bt169.2.2).bind fun t176 => (if t176 = true then (some true) else (none)))) else (none))) = some r := H
    have A10 := Aside0.mk A100
    clear A100
    replace H := Option.bind_eq_some_iff.mp H
    obtain ⟨t168, A110, H⟩ := H
    replace H : (if t168 = t159 then ((laws_toGraph.f k a0_0 l0_1 l0_2).bind fun bt169 => ((laws_eqGraph.f k t160 t161 t164 bt169.1 bt169.2.1 bt169.2.2).bind fun t176 => (if t176 = true then (some true) else (none)))) else (none)) = some r := H
    have A11 := Aside0.mk A110
    clear A110
    by_cases c12 : t168 = t159
    · rw [if_pos c12] at H
      have c12b0 : (t168 == t159) = true := beq_iff_eq.mpr c12
      have c12b1 : (t168 != t159) = false := bne_eq_false_iff_eq.mpr c12
      clear c12
      replace H := Option.bind_eq_some_iff.mp H
      obtain ⟨⟨t169, t170, t173⟩, A130, H⟩ := H
      replace H : ((laws_eqGraph.f k t160 t161 t164 t169 t170 t173).bind fun t176 => (if t176 = true then (some true) else (none))) = some r := H
      have A13 := Aside0.mk A130
      clear A130
      replace H := Option.bind_eq_some_iff.mp H
      obtain ⟨t176, A140, H⟩ := H
      replace H : (if t176 = true then (some true) else (none)) = some r := H
      have A14 := Aside0.mk A140
      clear A140
      by_cases c15 : t176 = true
      · subst c15
        have H1 : (some true) = some r := by rw [if_pos rfl] at H; exact H
        clear H
        have H := H1
        clear H1
        obtain rfl := Option.some.inj H
        go_enter Try.func4, Try.ntmps4
        try go_wp2_with (first | ((with_reducible refine gate_dst (N := 2) rfl ?_); refine box_event ?hg (N := 2) ?hd (cs := #[.int .i64 a0_0, .slice A0_1 l0_1.length c0_1, .slice A0_2 l0_2.length c0_2]) (t := 31) ?hr ?_; (case hd => rfl); (case hg => rfl); (case hr => exact sqG); intro gb150 hg w16 hbox hb; have n0_ := Aside0.mk (below_step sqB hb); have n1_ := Aside0.mk (hbox); have n2_ := Aside0.mk ((sqS hg : w.heap.size ≤ gb150)); have n3_ := Aside0.mk ((sqS hg : w.heap.size ≤ gb150)); clear HB; have HB := n0_; have BK150 := n1_; have GW150 := n2_; have GE150 := n3_; clear n0_ n1_ n2_ n3_; clear hb hbox hg; have hcz17_0 : w16.cell? ⟨gb150, 0, none⟩ = some (.int .i64 a0_0) := (blk_cell BK150.out 0).trans rfl; have hcz17_1 : w16.cell? ⟨gb150, 1, none⟩ = some (.slice A0_1 l0_1.length c0_1) := (blk_cell BK150.out 1).trans rfl; have hcz17_2 : w16.cell? ⟨gb150, 2, none⟩ = some (.slice A0_2 l0_2.length c0_2) := (blk_cell BK150.out 2).trans rfl; have hfz17_0 := blk_frozen BK150.out 0; have hfz17_1 := blk_frozen BK150.out 1; have hfz17_2 := blk_frozen BK150.out 2) | ((with_reducible refine gate_callee (f := 16) rfl ?_); refine goesL_ (some 11) rfl rfl Try.func16 (by kernel_rfl) rfl #[.agg #[.int .i64 a0_0, .slice A0_1 l0_1.length c0_1, .slice A0_2 l0_2.length c0_2], .int .i64 1048576] rfl sqM ?_; (with_reducible refine (laws_szGraph.calls a0_0 _ _ l0_1 _ _ l0_2 1048576 t151 _ ?side1 ?side2 ?side3 ?side4 A3.out).mono ?_); (case side1 => exact sqC (Kd.C_below HR0_1.out HB.out)); (case side2 => exact HC0_1.out); (case side3 => exact sqC (Kd.C_below HR0_2.out HB.out)); (case side4 => exact HC0_2.out); rintro e w18 ⟨rfl, hb⟩; refine ⟨_, rfl, ?_⟩; have n0_ := Aside0.mk (blk_below (g := gb150) (o := .cells #[.int .i64 a0_0, .slice A0_1 l0_1.length c0_1, .slice A0_2 l0_2.length c0_2] 31 (0, 0)) (sqK BK150.out) hb); have n1_ := Aside0.mk (below_step sqB hb); clear BK150; clear HB; have BK150 := n0_; have HB := n1_; clear n0_ n1_; (try clear hb); (try clear hb2); (try clear hk); (try clear hi); have hcz19_0 : w18.cell? ⟨gb150, 0, none⟩ = some (.int .i64 a0_0) := (blk_cell BK150.out 0).trans rfl; have hcz19_1 : w18.cell? ⟨gb150, 1, none⟩ = some (.slice A0_1 l0_1.length c0_1) := (blk_cell BK150.out 1).trans rfl; have hcz19_2 : w18.cell? ⟨gb150, 2, none⟩ = some (.slice A0_2 l0_2.length c0_2) := (blk_cell BK150.out 2).trans rfl; have hfz19_0 := blk_frozen BK150.out 0; have hfz19_1 := blk_frozen BK150.out 1; have hfz19_2 := blk_frozen BK150.out 2) | ((with_reducible refine gate_callee (f := 18) rfl ?_); refine goesL_ (some 15) rfl rfl Try.func18 (by kernel_rfl) rfl #[.agg #[.int .i64 a0_0, .slice A0_1 l0_1.length c0_1, .slice A0_2 l0_2.length c0_2]] rfl sqM ?_; (with_reducible refine (laws_toGraph.calls k a0_0 _ _ l0_1 _ _ l0_2 t152 t153 t156 _ ?side1 ?side2 ?side3 ?side4 A8.out).mono ?_); (case side1 => exact sqC (Kd.C_below HR0_1.out HB.out)); (case side2 => exact HC0_1.out); (case side3 => exact sqC (Kd.C_below HR0_2.out HB.out)); (case side4 => exact HC0_2.out); rintro e w20 ⟨v154, v157, rfl, ho0, ho1, hb⟩; refine ⟨_, rfl, ?_⟩; have n0_ := Aside0.mk (Kd.R_lower ho0 (below_size sqB)); have n1_ := Aside0.mk (Kd.R_lower ho1 (below_size sqB)); have n2_ := Aside0.mk (blk_below (g := gb150) (o := .cells #[.int .i64 a0_0, .slice A0_1 l0_1.length c0_1, .slice A0_2 l0_2.length c0_2] 31 (0, 0)) (sqK BK150.out) hb); have n3_ := Aside0.mk (below_step sqB hb); clear BK150; clear HB; have HO155 := n0_; have HO158 := n1_; have BK150 := n2_; have HB := n3_; clear n0_ n1_ n2_ n3_; (try clear hb); (try clear hb2); (try clear hk); (try clear hi); (try clear ho0); (try clear ho1); obtain ⟨Ao21, co21, eo21⟩ := Kd.R_slice HO155.out; subst eo21; obtain ⟨Ao22, co22, eo22⟩ := Kd.R_slice HO158.out; subst eo22) | ((with_reducible refine gate_callee (f := 17) rfl ?_); refine goesL_ (some 17) rfl rfl Try.func17 (by kernel_rfl) rfl #[.agg #[.int .i64 t152, .slice Ao21 t153.length co21, .slice Ao22 t156.length co22], .int .i64 a1] rfl sqM ?_; (with_reducible refine (spec_Colourings.calls k t152 _ _ t153 _ _ t156 a1 t159 _ ?side1 ?side2 ?side3 ?side4 A9.out).mono ?_); (case side1 => exact sqC (Kd.R_reads' HO155.out).2.2); (case side2 => exact (Kd.R_reads' HO155.out).2.1); (case side3 => exact sqC (Kd.R_reads' HO158.out).2.2); (case side4 => exact (Kd.R_reads' HO158.out).2.1); rintro e w23 ⟨rfl, hb⟩; refine ⟨_, rfl, ?_⟩; have n0_ := Aside0.mk (Kd.R_below (sqR HO155.out) hb); have n1_ := Aside0.mk (Kd.R_below (sqR HO158.out) hb); have n2_ := Aside0.mk (blk_below (g := gb150) (o := .cells #[.int .i64 a0_0, .slice A0_1 l0_1.length c0_1, .slice A0_2 l0_2.length c0_2] 31 (0, 0)) (sqK BK150.out) hb); have n3_ := Aside0.mk (below_step sqB hb); clear HO155; clear HO158; clear BK150; clear HB; have HO155 := n0_; have HO158 := n1_; have BK150 := n2_; have HB := n3_; clear n0_ n1_ n2_ n3_; (try clear hb); (try clear hb2); (try clear hk); (try clear hi); have hcz24_0 : w23.cell? ⟨gb150, 0, none⟩ = some (.int .i64 a0_0) := (blk_cell BK150.out 0).trans rfl; have hcz24_1 : w23.cell? ⟨gb150, 1, none⟩ = some (.slice A0_1 l0_1.length c0_1) := (blk_cell BK150.out 1).trans rfl; have hcz24_2 : w23.cell? ⟨gb150, 2, none⟩ = some (.slice A0_2 l0_2.length c0_2) := (blk_cell BK150.out 2).trans rfl; have hfz24_0 := blk_frozen BK150.out 0; have hfz24_1 := blk_frozen BK150.out 1; have hfz24_2 := blk_frozen BK150.out 2) | ((with_reducible refine gate_callee (f := 18) rfl ?_); refine goesL_ (some 19) rfl rfl Try.func18 (by kernel_rfl) rfl #[.agg #[.int .i64 a0_0, .slice A0_1 l0_1.length c0_1, .slice A0_2 l0_2.length c0_2]] rfl sqM ?_; (with_reducible refine (laws_toGraph.calls k a0_0 _ _ l0_1 _ _ l0_2 t160 t161 t164 _ ?side1 ?side2 ?side3 ?side4 A10.out).mono ?_); (case side1 => exact sqC (Kd.C_below HR0_1.out HB.out)); (case side2 => exact HC0_1.out); (case side3 => exact sqC (Kd.C_below HR0_2.out HB.out)); (case side4 => exact HC0_2.out); rintro e w25 ⟨v162, v165, rfl, ho0, ho1, hb⟩; refine ⟨_, rfl, ?_⟩; have n0_ := Aside0.mk (Kd.R_mono (Kd.R_told (Kd.R_told (Kd.R_old (sqR HO155.out) hb) (Kd.R_base ho0)) (Kd.R_base ho1)) (fun _ h_ => h_.1)); have n1_ := Aside0.mk (Kd.R_mono (Kd.R_told (Kd.R_told (Kd.R_old (sqR HO158.out) hb) (Kd.R_base ho0)) (Kd.R_base ho1)) (fun _ h_ => h_.1)); have n2_ := Aside0.mk (Kd.R_lower (Kd.R_new' (Kd.R_new' ho0 (Kd.R_lt (sqR HO155.out))) (Kd.R_lt (sqR HO158.out))) (below_size sqB)); have n3_ := Aside0.mk (Kd.R_lower (Kd.R_new' (Kd.R_new' ho1 (Kd.R_lt (sqR HO155.out))) (Kd.R_lt (sqR HO158.out))) (below_size sqB)); have n4_ := Aside0.mk (blk_below (g := gb150) (o := .cells #[.int .i64 a0_0, .slice A0_1 l0_1.length c0_1, .slice A0_2 l0_2.length c0_2] 31 (0, 0)) (sqK BK150.out) hb); have n5_ := Aside0.mk (below_step sqB hb); clear HO155; clear HO158; clear BK150; clear HB; have HO155 := n0_; have HO158 := n1_; have HO163 := n2_; have HO166 := n3_; have BK150 := n4_; have HB := n5_; clear n0_ n1_ n2_ n3_ n4_ n5_; (try clear hb); (try clear hb2); (try clear hk); (try clear hi); (try clear ho0); (try clear ho1)) | ((with_reducible refine gate_dst (N := 7) rfl ?_); refine box_event ?hg (N := 7) ?hd (cs := #[.int .i64 0, .slice none 0 0, .slice none 0 0]) (t := 34) ?hr ?_; (case hd => rfl); (case hg => rfl); (case hr => exact sqG); intro gb167 hg w26 hbox hb; have n0_ := Aside0.mk (Kd.R_below (sqR HO155.out) hb); have n1_ := Aside0.mk (Kd.R_below (sqR HO158.out) hb); have n2_ := Aside0.mk (Kd.R_below (sqR HO163.out) hb); have n3_ := Aside0.mk (Kd.R_below (sqR HO166.out) hb); have n4_ := Aside0.mk (blk_below (g := gb150) (o := .cells #[.int .i64 a0_0, .slice A0_1 l0_1.length c0_1, .slice A0_2 l0_2.length c0_2] 31 (0, 0)) (sqK BK150.out) hb); have n5_ := Aside0.mk (below_step sqB hb); have n6_ := Aside0.mk (hbox); have n7_ := Aside0.mk ((sqS hg : w.heap.size ≤ gb167)); have n8_ := Aside0.mk ((sqS hg : w.heap.size ≤ gb167)); have n9_ := Aside0.mk ((by rw [hg]; exact Nat.ne_of_lt (blk_lt (g := gb150) (o := .cells #[.int .i64 a0_0, .slice A0_1 l0_1.length c0_1, .slice A0_2 l0_2.length c0_2] 31 (0, 0)) (sqK BK150.out)) : gb150 ≠ gb167)); have n10_ := Aside0.mk ((by rw [hg]; exact Nat.ne_of_gt (blk_lt (g := gb150) (o := .cells #[.int .i64 a0_0, .slice A0_1 l0_1.length c0_1, .slice A0_2 l0_2.length c0_2] 31 (0, 0)) (sqK BK150.out)) : gb167 ≠ gb150)); clear HO155; clear HO158; clear HO163; clear HO166; clear BK150; clear HB; have HO155 := n0_; have HO158 := n1_; have HO163 := n2_; have HO166 := n3_; have BK150 := n4_; have HB := n5_; have BK167 := n6_; have GW167 := n7_; have GE167 := n8_; have NB150_167 := n9_; have NB167_150 := n10_; clear n0_ n1_ n2_ n3_ n4_ n5_ n6_ n7_ n8_ n9_ n10_; clear hb hbox hg; have hnb27 := NB167_150.out; have hnc27 := NB150_167.out; have hcz28_0 : w26.cell? ⟨gb167, 0, none⟩ = some (.int .i64 0) := (blk_cell BK167.out 0).trans rfl; have hcz28_1 : w26.cell? ⟨gb167, 1, none⟩ = some (.slice none 0 0) := (blk_cell BK167.out 1).trans rfl; have hcz28_2 : w26.cell? ⟨gb167, 2, none⟩ = some (.slice none 0 0) := (blk_cell BK167.out 2).trans rfl; have hfz28_0 := blk_frozen BK167.out 0; have hfz28_1 := blk_frozen BK167.out 1; have hfz28_2 := blk_frozen BK167.out 2; obtain ⟨Ao29, co29, eo29⟩ := Kd.R_slice HO163.out; subst eo29; obtain ⟨Ao30, co30, eo30⟩ := Kd.R_slice HO166.out; subst eo30) | ((with_reducible refine gate_callee (f := 19) rfl ?_); refine goesL_ (some 22) rfl rfl Try.func19 (by kernel_rfl) rfl #[.agg #[.int .i64 t160, .slice Ao29 t161.length co29, .slice Ao30 t164.length co30], .int .i64 a1] rfl sqM ?_; (with_reducible refine (impl_Colourings.calls k t160 _ _ t161 _ _ t164 a1 t168 _ ?side1 ?side2 ?side3 ?side4 A11.out).mono ?_); (case side1 => refine (Kd.R_reads' (e := 3) (base := w.heap.size) (ok := fun k_ => ((some k_ ≠ (.slice Ao30 t164.length co30 : Value).ownBlock ∧ some k_ ≠ (.slice Ao21 t153.length co21 : Value).ownBlock) ∧ some k_ ≠ (.slice Ao22 t156.length co22 : Value).ownBlock)) (n := t161.length) (c := co29) ?_).2.2; exact (by refine sqR ?_; exact (Kd.R_mono (Kd.R_far (p := ⟨gb167, 2, none⟩) (Kd.R_far (p := ⟨gb167, 1, none⟩) (Kd.R_far (p := ⟨gb167, 0, none⟩) (Kd.R_types HO163.out BK167.out (by decide)) (fun _ hk => hk.2) (.int .i64 t160)) (fun _ hk => hk.2) (.slice Ao29 t161.length co29)) (fun _ hk => hk.2) (.slice Ao30 t164.length co30)) (fun _ h_ => h_.1)))); (case side2 => exact (Kd.R_reads' HO163.out).2.1); (case side3 => refine (Kd.R_reads' (e := 3) (base := w.heap.size) (ok := fun k_ => ((some k_ ≠ (.slice Ao29 t161.length co29 : Value).ownBlock ∧ some k_ ≠ (.slice Ao21 t153.length co21 : Value).ownBlock) ∧ some k_ ≠ (.slice Ao22 t156.length co22 : Value).ownBlock)) (n := t164.length) (c := co30) ?_).2.2; exact (by refine sqR ?_; exact (Kd.R_mono (Kd.R_far (p := ⟨gb167, 2, none⟩) (Kd.R_far (p := ⟨gb167, 1, none⟩) (Kd.R_far (p := ⟨gb167, 0, none⟩) (Kd.R_types HO166.out BK167.out (by decide)) (fun _ hk => hk.2) (.int .i64 t160)) (fun _ hk => hk.2) (.slice Ao29 t161.length co29)) (fun _ hk => hk.2) (.slice Ao30 t164.length co30)) (fun _ h_ => h_.1)))); (case side4 => exact (Kd.R_reads' HO166.out).2.1); rintro e w31 ⟨rfl, hb⟩; refine ⟨_, rfl, ?_⟩; have n0_ := Aside0.mk (Kd.R_below (by refine sqR ?_; exact (Kd.R_mono (Kd.R_far (p := ⟨gb167, 2, none⟩) (Kd.R_far (p := ⟨gb167, 1, none⟩) (Kd.R_far (p := ⟨gb167, 0, none⟩) (Kd.R_types HO155.out BK167.out (by decide)) (fun _ hk => hk.2) (.int .i64 t160)) (fun _ hk => hk.2) (.slice Ao29 t161.length co29)) (fun _ hk => hk.2) (.slice Ao30 t164.length co30)) (fun _ h_ => h_.1))) hb); have n1_ := Aside0.mk (Kd.R_below (by refine sqR ?_; exact (Kd.R_mono (Kd.R_far (p := ⟨gb167, 2, none⟩) (Kd.R_far (p := ⟨gb167, 1, none⟩) (Kd.R_far (p := ⟨gb167, 0, none⟩) (Kd.R_types HO158.out BK167.out (by decide)) (fun _ hk => hk.2) (.int .i64 t160)) (fun _ hk => hk.2) (.slice Ao29 t161.length co29)) (fun _ hk => hk.2) (.slice Ao30 t164.length co30)) (fun _ h_ => h_.1))) hb); have n2_ := Aside0.mk (Kd.R_below (by refine sqR ?_; exact (Kd.R_mono (Kd.R_far (p := ⟨gb167, 2, none⟩) (Kd.R_far (p := ⟨gb167, 1, none⟩) (Kd.R_far (p := ⟨gb167, 0, none⟩) (Kd.R_types HO163.out BK167.out (by decide)) (fun _ hk => hk.2) (.int .i64 t160)) (fun _ hk => hk.2) (.slice Ao29 t161.length co29)) (fun _ hk => hk.2) (.slice Ao30 t164.length co30)) (fun _ h_ => h_.1))) hb); have n3_ := Aside0.mk (Kd.R_below (by refine sqR ?_; exact (Kd.R_mono (Kd.R_far (p := ⟨gb167, 2, none⟩) (Kd.R_far (p := ⟨gb167, 1, none⟩) (Kd.R_far (p := ⟨gb167, 0, none⟩) (Kd.R_types HO166.out BK167.out (by decide)) (fun _ hk => hk.2) (.int .i64 t160)) (fun _ hk => hk.2) (.slice Ao29 t161.length co29)) (fun _ hk => hk.2) (.slice Ao30 t164.length co30)) (fun _ h_ => h_.1))) hb); have n4_ := Aside0.mk (blk_below (g := gb150) (o := .cells #[.int .i64 a0_0, .slice A0_1 l0_1.length c0_1, .slice A0_2 l0_2.length c0_2] 31 (0, 0)) (by refine sqK ?_; refine blk_far ?_ NB150_167.out _; refine sqK ?_; refine blk_far ?_ NB150_167.out _; refine sqK ?_; refine blk_far ?_ NB150_167.out _; refine sqK ?_; exact BK150.out) hb); have n5_ := Aside0.mk (blk_below (g := gb167) (o := .cells #[.int .i64 t160, .slice Ao29 t161.length co29, .slice Ao30 t164.length co30] 34 (0, 0)) (by refine sqK ?_; refine blk_put (cs := #[.int .i64 t160, .slice Ao29 t161.length co29, .slice none 0 0]) ?_ 2 _ rfl; refine sqK ?_; refine blk_put (cs := #[.int .i64 t160, .slice none 0 0, .slice none 0 0]) ?_ 1 _ rfl; refine sqK ?_; refine blk_put (cs := #[.int .i64 0, .slice none 0 0, .slice none 0 0]) ?_ 0 _ rfl; refine sqK ?_; exact BK167.out) hb); have n6_ := Aside0.mk (below_step sqB hb); clear HO155; clear HO158; clear HO163; clear HO166; clear BK150; clear BK167; clear HB; have HO155 := n0_; have HO158 := n1_; have HO163 := n2_; have HO166 := n3_; have BK150 := n4_; have BK167 := n5_; have HB := n6_; clear n0_ n1_ n2_ n3_ n4_ n5_ n6_; (try clear hb); (try clear hb2); (try clear hk); (try clear hi)))
        have n0_ := Aside0.mk (Kd.R_drew HO155.out)
        have n1_ := Aside0.mk (Kd.R_drew HO158.out)
        have n2_ := Aside0.mk (Kd.R_drew HO163.out)
        have n3_ := Aside0.mk (Kd.R_drew HO166.out)
        have n4_ := Aside0.mk (blk_drew BK150.out)
        have n5_ := Aside0.mk (blk_drew BK167.out)
        have n6_ := Aside0.mk (below_drew1 HB.out)
        clear HO155 HO158 HO163 HO166 BK150 BK167 HB; have HO155 := n0_; have HO158 := n1_; have HO163 := n2_; have HO166 := n3_; have BK150 := n4_; have BK167 := n5_; have HB := n6_; clear n0_ n1_ n2_ n3_ n4_ n5_ n6_
        refine start_ (n := 5) (S := fun w' => w'.cell? ⟨gb167, 0, none⟩ = some (.int .i64 t160) ∧ w'.cell? ⟨gb167, 1, none⟩ = some (.slice Ao29 t161.length co29) ∧ w'.cell? ⟨gb167, 2, none⟩ = some (.slice Ao30 t164.length co30) ∧ w'.cell? ⟨gb150, 0, none⟩ = some (.int .i64 a0_0) ∧ w'.cell? ⟨gb150, 1, none⟩ = some (.slice A0_1 l0_1.length c0_1) ∧ w'.cell? ⟨gb150, 2, none⟩ = some (.slice A0_2 l0_2.length c0_2)) (ds := []) #[false, false, false, false, false] (by kernel_rfl) rfl rfl ⟨(blk_cell BK167.out 0).trans rfl, (blk_cell BK167.out 1).trans rfl, (blk_cell BK167.out 2).trans rfl, (blk_cell BK150.out 0).trans rfl, (blk_cell BK150.out 1).trans rfl, (blk_cell BK150.out 2).trans rfl⟩ (fun hHeld => ?_)
        generalize w31.drew = w32 at HO155 HO158 HO163 HO166 BK150 BK167 HB hHeld ⊢
        refine take_ (i := 0) (N := some 26) (v := ?_) (a' := ?_) #[true, false, false, false, false] rfl rfl (by kernel_rfl) (fun _ _ _ h => h) (Or.inl ⟨by rfl, ?_⟩) hHeld ?_ ?_
        rotate_left
        · rintro w' ⟨s0, s1, s2, s3, s4, s5⟩; go_simp; with_reducible rfl
        rotate_left
        · simp only [Act.put, List.setIfInBounds_toArray, List.set_cons_zero, List.set_cons_succ, i64_w, i32_w]; rfl
        refine take_ (i := 1) (N := some 27) (v := ?_) (a' := ?_) #[true, true, false, false, false] rfl rfl (by kernel_rfl) (fun _ _ _ h => h) (Or.inl ⟨by rfl, ?_⟩) hHeld ?_ ?_
        rotate_left
        · rintro w' ⟨s0, s1, s2, s3, s4, s5⟩; go_simp; with_reducible rfl
        rotate_left
        · simp only [Act.put, List.setIfInBounds_toArray, List.set_cons_zero, List.set_cons_succ, i64_w, i32_w]; rfl
        refine one_ (i := 2) (N := some 28) #[true, true, true, false, false] rfl rfl (by kernel_rfl) (by decide) (fun K hK => ?_)
        refine goes_ Try.func18 (by kernel_rfl) rfl #[.agg #[.int .i64 a0_0, .slice A0_1 l0_1.length c0_1, .slice A0_2 l0_2.length c0_2]] (by rfl) rfl rfl sqM ?_
        with_reducible refine (laws_toGraph.calls k a0_0 _ _ l0_1 _ _ l0_2 t169 t170 t173 _ ?side1 ?side2 ?side3 ?side4 A13.out).mono ?_
        (case side1 => exact sqC (Kd.C_below HR0_1.out HB.out))
        (case side2 => exact HC0_1.out)
        (case side3 => exact sqC (Kd.C_below HR0_2.out HB.out))
        (case side4 => exact HC0_2.out)
        rintro e w33 ⟨v171, v174, rfl, ho0, ho1, hb⟩
        refine ⟨_, rfl, ?_⟩
        have n0_ := Aside0.mk (Kd.R_mono (Kd.R_told (Kd.R_told (Kd.R_old (sqR HO155.out) hb) (Kd.R_base ho0)) (Kd.R_base ho1)) (fun _ h_ => h_.1))
        have n1_ := Aside0.mk (Kd.R_mono (Kd.R_told (Kd.R_told (Kd.R_old (sqR HO158.out) hb) (Kd.R_base ho0)) (Kd.R_base ho1)) (fun _ h_ => h_.1))
        have n2_ := Aside0.mk (Kd.R_mono (Kd.R_told (Kd.R_told (Kd.R_old (sqR HO163.out) hb) (Kd.R_base ho0)) (Kd.R_base ho1)) (fun _ h_ => h_.1))
        have n3_ := Aside0.mk (Kd.R_mono (Kd.R_told (Kd.R_told (Kd.R_old (sqR HO166.out) hb) (Kd.R_base ho0)) (Kd.R_base ho1)) (fun _ h_ => h_.1))
        have n4_ := Aside0.mk (Kd.R_lower (Kd.R_new' (Kd.R_new' (Kd.R_new' (Kd.R_new' ho0 (Kd.R_lt (sqR HO155.out))) (Kd.R_lt (sqR HO158.out))) (Kd.R_lt (sqR HO163.out))) (Kd.R_lt (sqR HO166.out))) (below_size sqB))
        have n5_ := Aside0.mk (Kd.R_lower (Kd.R_new' (Kd.R_new' (Kd.R_new' (Kd.R_new' ho1 (Kd.R_lt (sqR HO155.out))) (Kd.R_lt (sqR HO158.out))) (Kd.R_lt (sqR HO163.out))) (Kd.R_lt (sqR HO166.out))) (below_size sqB))
        have n6_ := Aside0.mk (blk_below (g := gb150) (o := .cells #[.int .i64 a0_0, .slice A0_1 l0_1.length c0_1, .slice A0_2 l0_2.length c0_2] 31 (0, 0)) (sqK BK150.out) hb)
        have n7_ := Aside0.mk (blk_below (g := gb167) (o := .cells #[.int .i64 t160, .slice Ao29 t161.length co29, .slice Ao30 t164.length co30] 34 (0, 0)) (sqK BK167.out) hb)
        have n8_ := Aside0.mk (below_step sqB hb)
        clear HO155 HO158 HO163 HO166 BK150 BK167 HB; have HO155 := n0_; have HO158 := n1_; have HO163 := n2_; have HO166 := n3_; have HO172 := n4_; have HO175 := n5_; have BK150 := n6_; have BK167 := n7_; have HB := n8_; clear n0_ n1_ n2_ n3_ n4_ n5_ n6_ n7_ n8_; (try clear hb); (try clear hb2); (try clear hk); (try clear hi); (try clear ho0); (try clear ho1)
        obtain ⟨Ao34, co34, eo34⟩ := Kd.R_slice HO172.out
        (first | subst eo34 | (injection eo34 with f1_ f2_ f3_; have f4_ := f1_.symm; have f5_ := f3_.symm; clear f1_ f2_ f3_; subst f4_; subst f5_))
        obtain ⟨Ao35, co35, eo35⟩ := Kd.R_slice HO175.out
        (first | subst eo35 | (injection eo35 with f1_ f2_ f3_; have f4_ := f1_.symm; have f5_ := f3_.symm; clear f1_ f2_ f3_; subst f4_; subst f5_))
        refine hK.out _ _ ⟨(blk_cell BK167.out 0).trans rfl, (blk_cell BK167.out 1).trans rfl, (blk_cell BK167.out 2).trans rfl, (blk_cell BK150.out 0).trans rfl, (blk_cell BK150.out 1).trans rfl, (blk_cell BK150.out 2).trans rfl⟩ (fun hHeld => ?_)
        clear hK K
        refine norm_ (a' := ?_) ?_ ?_
        rotate_left
        · show Act.put _ (some 28) _ = _; simp only [Act.put, List.setIfInBounds_toArray, List.set_cons_zero, List.set_cons_succ, i64_w, i32_w]; rfl
        refine one_ (i := 3) (N := some 29) #[true, true, true, true, false] rfl rfl (by kernel_rfl) (by decide) (fun K hK => ?_)
        refine goes_ Try.func20 (by kernel_rfl) rfl #[.agg #[.int .i64 t160, .slice Ao29 t161.length co29, .slice Ao30 t164.length co30], .agg #[.int .i64 t169, .slice Ao34 t170.length co34, .slice Ao35 t173.length co35]] (by rfl) rfl rfl sqM ?_
        with_reducible refine (laws_eqGraph.calls k t160 _ _ t161 _ _ t164 t169 _ _ t170 _ _ t173 true _ ?side1 ?side2 ?side3 ?side4 ?side5 ?side6 ?side7 ?side8 A14.out).mono ?_
        (case side1 => exact sqC (Kd.R_reads' HO163.out).2.2)
        (case side2 => exact (Kd.R_reads' HO163.out).2.1)
        (case side3 => exact sqC (Kd.R_reads' HO166.out).2.2)
        (case side4 => exact (Kd.R_reads' HO166.out).2.1)
        (case side5 => exact sqC (Kd.R_reads' HO172.out).2.2)
        (case side6 => exact (Kd.R_reads' HO172.out).2.1)
        (case side7 => exact sqC (Kd.R_reads' HO175.out).2.2)
        (case side8 => exact (Kd.R_reads' HO175.out).2.1)
        rintro e w36 ⟨rfl, hb⟩
        refine ⟨_, rfl, ?_⟩
        have n0_ := Aside0.mk (Kd.R_below (sqR HO155.out) hb)
        have n1_ := Aside0.mk (Kd.R_below (sqR HO158.out) hb)
        have n2_ := Aside0.mk (Kd.R_below (sqR HO163.out) hb)
        have n3_ := Aside0.mk (Kd.R_below (sqR HO166.out) hb)
        have n4_ := Aside0.mk (Kd.R_below (sqR HO172.out) hb)
        have n5_ := Aside0.mk (Kd.R_below (sqR HO175.out) hb)
        have n6_ := Aside0.mk (blk_below (g := gb150) (o := .cells #[.int .i64 a0_0, .slice A0_1 l0_1.length c0_1, .slice A0_2 l0_2.length c0_2] 31 (0, 0)) (sqK BK150.out) hb)
        have n7_ := Aside0.mk (blk_below (g := gb167) (o := .cells #[.int .i64 t160, .slice Ao29 t161.length co29, .slice Ao30 t164.length co30] 34 (0, 0)) (sqK BK167.out) hb)
        have n8_ := Aside0.mk (below_step sqB hb)
        clear HO155 HO158 HO163 HO166 HO172 HO175 BK150 BK167 HB; have HO155 := n0_; have HO158 := n1_; have HO163 := n2_; have HO166 := n3_; have HO172 := n4_; have HO175 := n5_; have BK150 := n6_; have BK167 := n7_; have HB := n8_; clear n0_ n1_ n2_ n3_ n4_ n5_ n6_ n7_ n8_; (try clear hb); (try clear hb2); (try clear hk); (try clear hi)
        refine hK.out _ _ ⟨(blk_cell BK167.out 0).trans rfl, (blk_cell BK167.out 1).trans rfl, (blk_cell BK167.out 2).trans rfl, (blk_cell BK150.out 0).trans rfl, (blk_cell BK150.out 1).trans rfl, (blk_cell BK150.out 2).trans rfl⟩ (fun hHeld => ?_)
        clear hK K
        refine norm_ (a' := ?_) ?_ ?_
        rotate_left
        · show Act.put _ (some 29) _ = _; simp only [Act.put, List.setIfInBounds_toArray, List.set_cons_zero, List.set_cons_succ, i64_w, i32_w]; rfl
        refine pure_ (i := 4) (N := some 30) (v := ?_) (a' := ?_) #[true, true, true, true, true] rfl rfl (by kernel_rfl) (fun _ _ _ h => h) (Or.inl ⟨by rfl, ?_⟩) ?_ ?_
        rotate_left
        · intro w'; go_simp; with_reducible rfl
        rotate_left
        · simp only [Act.put, List.setIfInBounds_toArray, List.set_cons_zero, List.set_cons_succ, i64_w, i32_w]; rfl
        refine done_ (by kernel_rfl) ?_
        try go_wp2
        go_ret
        exact ⟨sqE, sqB⟩
      · replace c15 := Bool.eq_false_iff.mpr c15
        subst c15
        have H1 : (none) = some r := by rw [if_neg (show ¬ (false = true) by decide)] at H; exact H
        clear H
        have H := H1
        clear H1
        exact absurd H (by simp)
    · rw [if_neg c12] at H
      exact absurd H (by simp)

end Go.Proofs.Ytopkfhnnapncgaa.F
end
section
namespace Go.Proofs.Ytopkfhnnapncgaa.Mt
def sdiff (a b : Nat) : Nat := a ^^^ (a &&& b)
theorem bit_sdiff (a b i : Nat) : (sdiff a b).testBit i = (a.testBit i && !b.testBit i) := by
  simp [sdiff, Nat.testBit_xor, Nat.testBit_and]; cases a.testBit i <;> cases b.testBit i <;> rfl
def elems (s : Nat) : List Nat := (List.range 8).filter s.testBit
theorem mem_elems {s e : Nat} : e ∈ elems s ↔ e < 8 ∧ s.testBit e = true := by simp [elems]
end Go.Proofs.Ytopkfhnnapncgaa.Mt
end
section
namespace Go.Proofs.Ytopkfhnnapncgaa.Bits
open Go.Proofs.Ytopkfhnnapncgaa.Mt (sdiff bit_sdiff)
open Go.RowKit Go.Proofs.YtopkfhnnapncgaaW.PrintWords Go.Proofs.YtopkfhnnapncgaaW.PrintLast Go.Proofs.YtopkfhnnapncgaaW.PrintMore

theorem wrap_in {n : Int} (h0 : -9223372036854775808 ≤ n) (h1 : n < 9223372036854775808) : wrap64 n = n := by unfold wrap64; omega
end Go.Proofs.Ytopkfhnnapncgaa.Bits
end
section
namespace Go.Proofs.Ytopkfhnnapncgaa.L
open Go.RowKit Go.Proofs.YtopkfhnnapncgaaW.PrintWords Go.Proofs.YtopkfhnnapncgaaW.PrintLast Go.Proofs.YtopkfhnnapncgaaW.PrintMore
open Go.Proofs.Ytopkfhnnapncgaa.Bits

theorem Ev.succ {α : Type} {g : Nat → Option α} {r : α} (h : Ev (fun k => g (k + 1)) r) : Ev g r := Ev.step (fun _ => rfl) h
theorem Ev.some {α : Type} {r s : α} (h : r = s) : Ev (fun _ => Option.some r) s := h ▸ Ev.now r
theorem wrap_succ {i : Nat} (h : i < 9223372036854775807) : wrap64 ((i : Int) + 1) = ((i + 1 : Nat) : Int) := wrap_in (by omega) (by omega)

/-- A loop that asks of all places, and says no at the first that fails. -/
theorem loop_all (L : Nat → Int → Option Bool) (n : Nat) (p : Nat → Bool) (hend : ∀ k, L (k + 1) (n : Int) = some true)
    (hstep : ∀ i, i < n → ∀ k, L (k + 1) (i : Int) = if p i = true then L k ((i + 1 : Nat) : Int) else some false) :
    ∀ d i, i + d = n → Ev (fun k => L k (i : Int)) ((List.range' i d).all p)
  | 0, i, hd => by
    obtain rfl : i = n := by omega
    refine Ev.succ ?_
    simp only [hend]; exact Ev.now _
  | d + 1, i, hd => by
    refine Ev.succ ?_
    rw [List.range'_succ, List.all_cons]
    simp only [hstep i (by omega)]
    cases hp : p i
    · simp only [Bool.false_eq_true, if_false, Bool.false_and]; exact Ev.now _
    · simp only [if_true, Bool.true_and]; exact loop_all L n p hend hstep d (i + 1) (by omega)
theorem loop_all0 (L : Nat → Int → Option Bool) (n : Nat) (p : Nat → Bool) (hend : ∀ k, L (k + 1) (n : Int) = some true)
    (hstep : ∀ i, i < n → ∀ k, L (k + 1) (i : Int) = if p i = true then L k ((i + 1 : Nat) : Int) else some false) :
    Ev (fun k => L k 0) ((List.range n).all p) := by
  rw [List.range_eq_range']; exact loop_all L n p hend hstep n 0 (by omega)
/-- A loop that gathers: at each place the state takes a step; an invariant goes along. -/
theorem loop_fold {σ ρ : Type} (L : Nat → σ → Int → Option ρ) (n : Nat) (step : σ → Nat → σ) (inv : Nat → σ → Prop) (fin : σ → ρ)
    (hend : ∀ s, inv n s → Ev (fun k => L (k + 1) s (n : Int)) (fin s))
    (hstep : ∀ i s, i < n → inv i s → inv (i + 1) (step s i) ∧ ∀ r, Ev (fun k => L k (step s i) ((i + 1 : Nat) : Int)) r → Ev (fun k => L (k + 1) s (i : Int)) r) :
    ∀ d i s, i + d = n → inv i s → Ev (fun k => L k s (i : Int)) (fin ((List.range' i d).foldl step s))
  | 0, i, s, hd, hi => by
    obtain rfl : i = n := by omega
    exact Ev.succ (hend s hi)
  | d + 1, i, s, hd, hi => by
    refine Ev.succ ?_
    obtain ⟨h1, h2⟩ := hstep i s (by omega) hi
    exact h2 _ (loop_fold L n step inv fin hend hstep d (i + 1) (step s i) (by omega) h1)
theorem loop_fold0 {σ ρ : Type} (L : Nat → σ → Int → Option ρ) (n : Nat) (step : σ → Nat → σ) (inv : Nat → σ → Prop) (fin : σ → ρ)
    (hend : ∀ s, inv n s → Ev (fun k => L (k + 1) s (n : Int)) (fin s))
    (hstep : ∀ i s, i < n → inv i s → inv (i + 1) (step s i) ∧ ∀ r, Ev (fun k => L k (step s i) ((i + 1 : Nat) : Int)) r → Ev (fun k => L (k + 1) s (i : Int)) r) (s : σ) (h : inv 0 s) :
    Ev (fun k => L k s 0) (fin ((List.range n).foldl step s)) := by
  rw [List.range_eq_range']; exact loop_fold L n step inv fin hend hstep n 0 s (by omega) h

/-- A loop that gathers, and what stands behind it. -/
theorem loop_reach {σ ρ : Type} (L : Nat → σ → Int → Option ρ) (n : Nat) (step : σ → Nat → σ) (inv : Nat → σ → Prop)
    (hstep : ∀ i s, i < n → inv i s → inv (i + 1) (step s i) ∧ ∀ r, Ev (fun k => L k (step s i) ((i + 1 : Nat) : Int)) r → Ev (fun k => L (k + 1) s (i : Int)) r) (s : σ) (h : inv 0 s) :
    inv n ((List.range n).foldl step s) ∧ ∀ r, Ev (fun k => L k ((List.range n).foldl step s) (n : Int)) r → Ev (fun k => L k s 0) r := by
  have key : ∀ d i s, i + d = n → inv i s → inv n ((List.range' i d).foldl step s) ∧ ∀ r, Ev (fun k => L k ((List.range' i d).foldl step s) (n : Int)) r → Ev (fun k => L k s (i : Int)) r := by
    intro d
    induction d with
    | zero => intro i s hd hi; obtain rfl : i = n := by omega
              exact ⟨hi, fun r h => h⟩
    | succ d ih =>
      intro i s hd hi
      obtain ⟨h1, h2⟩ := hstep i s (by omega) hi
      obtain ⟨h3, h4⟩ := ih (i + 1) (step s i) (by omega) h1
      rw [List.range'_succ, List.foldl_cons]
      exact ⟨h3, fun r h => Ev.succ (h2 r (h4 r h))⟩
  rw [List.range_eq_range']
  exact key n 0 s (by omega) h
theorem rd_getD (l : List Int) (j : Nat) : rd l (j : Int) = l.getD j 0 := by simp [rd]
end Go.Proofs.Ytopkfhnnapncgaa.L
end
section
namespace Go.Proofs.Ytopkfhnnapncgaa.L
open Go.RowKit Go.Proofs.Ytopkfhnnapncgaa.F Go.Proofs.YtopkfhnnapncgaaW.PrintWords Go.Proofs.YtopkfhnnapncgaaW.PrintLast Go.Proofs.YtopkfhnnapncgaaW.PrintMore
open Go.Proofs.Ytopkfhnnapncgaa.Bits
set_option linter.unusedSimpArgs false
set_option linter.unusedVariables false
def sm (f : Nat → Nat) : Nat → Nat
  | 0 => 0
  | n + 1 => sm f n + f n
theorem sm_congr {f g : Nat → Nat} : ∀ n, (∀ x, x < n → f x = g x) → sm f n = sm g n
  | 0, _ => rfl
  | n + 1, h => by rw [sm, sm, sm_congr n fun x hx => h x (by omega), h n (by omega)]
theorem sm_add (f : Nat → Nat) (a : Nat) : ∀ b, sm f (a + b) = sm f a + sm (fun x => f (a + x)) b
  | 0 => by simp [sm]
  | b + 1 => by rw [← Nat.add_assoc, sm, sm_add f a b, sm]; omega
theorem sm_plus (f g : Nat → Nat) : ∀ n, sm (fun x => f x + g x) n = sm f n + sm g n
  | 0 => rfl
  | n + 1 => by rw [sm, sm_plus f g n, sm, sm]; omega
theorem sm_zero : ∀ n, sm (fun _ => 0) n = 0
  | 0 => rfl
  | n + 1 => by rw [sm, sm_zero n]
theorem sm_mul (f : Nat → Nat) (q : Nat) : ∀ M, sm f (q * M) = sm (fun x => sm (fun n => f (x + q * n)) M) q
  | 0 => by rw [Nat.mul_zero, sm, show (fun x => sm (fun n => f (x + q * n)) 0) = fun _ => 0 from rfl, sm_zero]
  | M + 1 => by
    rw [Nat.mul_succ, sm_add, sm_mul f q M]
    have : sm (fun x => sm (fun n => f (x + q * n)) (M + 1)) q = sm (fun x => sm (fun n => f (x + q * n)) M + f (x + q * M)) q := rfl
    rw [this, sm_plus]
    congr 1
    exact sm_congr q fun x _ => by rw [Nat.add_comm]
theorem sm_le (f : Nat → Nat) (b : Nat) : ∀ n, (∀ x, x < n → f x ≤ b) → sm f n ≤ n * b
  | 0, _ => by simp [sm]
  | n + 1, h => by
    have h1 := sm_le f b n fun x hx => h x (by omega)
    have h2 := h n (by omega)
    rw [sm, Nat.add_mul, Nat.one_mul]; omega
/-- How many lists that go on a beginning by m numbers below q fit. -/
def cn (P : List Int → Bool) (q : Nat) : Nat → List Int → Nat
  | 0, pre => if P pre = true then 1 else 0
  | m + 1, pre => sm (fun x => cn P q m (pre ++ [(x : Int)])) q
def dig (q : Nat) : Nat → Nat → List Int
  | 0, _ => []
  | m + 1, n => ((n % q : Nat) : Int) :: dig q m (n / q)
theorem dig_length (q : Nat) : ∀ m n, (dig q m n).length = m
  | 0, _ => rfl
  | m + 1, n => by rw [dig, List.length_cons, dig_length q m]
theorem cn_le (P : List Int → Bool) (q : Nat) : ∀ m pre, cn P q m pre ≤ q ^ m
  | 0, pre => by rw [cn]; split <;> simp
  | m + 1, pre => by
    rw [cn, Nat.pow_succ, Nat.mul_comm]
    exact sm_le _ _ _ fun x _ => cn_le P q m _
theorem cn_dig (P : List Int → Bool) {q : Nat} (hq : 0 < q) : ∀ m pre, cn P q m pre = sm (fun n => if P (pre ++ dig q m n) = true then 1 else 0) (q ^ m)
  | 0, pre => by simp [cn, sm, dig]
  | m + 1, pre => by
    rw [cn, Nat.pow_succ, Nat.mul_comm, sm_mul]
    refine sm_congr q fun x hx => ?_
    rw [cn_dig P hq m]
    refine sm_congr _ fun n _ => ?_
    have h1 : (x + q * n) % q = x := by rw [Nat.add_mul_mod_self_left, Nat.mod_eq_of_lt hx]
    have h2 : (x + q * n) / q = n := by rw [Nat.add_mul_div_left _ _ hq, Nat.div_eq_of_lt hx, Nat.zero_add]
    rw [dig, h1, h2, List.append_assoc]; rfl
theorem pow_small {q m : Nat} (hq : q ≤ 4) (hm : m ≤ 8) : q ^ m ≤ 65536 :=
  Nat.le_trans (Nat.pow_le_pow_left hq m) (Nat.le_trans (Nat.pow_le_pow_right (n := 4) (by decide) hm) (by decide))
/-- The recursion of impl.countAll counts just these (numbers from lo to lo + q - 1 are the q first shifted by lo). -/
theorem fill_count (Q : List Int → Option Bool) (P : List Int → Bool) {V q : Nat} (lo : Nat) (hlo : lo ≤ 1) (hq : q ≤ 4) (hV : V ≤ 8) (hQ : ∀ l : List Int, l.length = V → Q l = some (P (l.map fun x => x - lo))) :
    ∀ (m p : Nat) (l : List Int), p + m = V → l.length = V → ∃ l' : List Int, l'.length = V ∧ l'.take p = l.take p ∧ Ev (fun k => fillO Q V lo ((lo : Int) + q - 1) k l p) (((cn P q m ((l.take p).map fun x => x - lo) : Nat) : Int), l')
  | 0, p, l, hp, hl => by
    refine ⟨l, hl, rfl, Ev.succ ?_⟩
    have hpv : p = V := by omega
    subst hpv
    simp only [fillO, if_true, hQ l hl, Option.bind_some]
    refine Ev.some ?_
    rw [List.take_of_length_le (by omega), cn]
    split <;> simp
  | m + 1, p, l, hp, hl => by
    have hne : ¬ ((p : Int) = (V : Int)) := by omega
    have hb := pow_small hq (show m + 1 ≤ 8 by omega)
    have hcn := fun x : Nat => cn_le P q m ((l.take p).map (fun x => x - (lo : Int)) ++ [(x : Int)])
    generalize hg : (fun x : Nat => cn P q m ((l.take p).map (fun x => x - (lo : Int)) ++ [(x : Int)])) = g
    have hgx : ∀ x, g x ≤ q ^ m := fun x => by rw [← hg]; exact hcn x
    have key : ∀ (d x : Nat) (l1 : List Int), x + d = q → l1.length = V → l1.take p = l.take p → ∃ l' : List Int, l'.length = V ∧ l'.take p = l.take p ∧ Ev (fun k => fillL Q V lo ((lo : Int) + q - 1) k l1 p ((sm g x : Nat) : Int) ((lo : Int) + x)) (((sm g q : Nat) : Int), l') := by
      intro d
      induction d with
      | zero =>
        intro x l1 hx h1 h2
        refine ⟨l1, h1, h2, Ev.succ ?_⟩
        have hxq : x = q := by omega
        subst hxq
        simp only [fillL, if_neg (show ¬ ((lo : Int) + (x : Int) ≤ (lo : Int) + (x : Int) - 1) by omega)]
        exact Ev.now _
      | succ d ih =>
        intro x l1 hx h1 h2
        have hxl : (l1.set p ((lo : Int) + x)).length = V := by simp [h1]
        obtain ⟨l2, h3, h4, h5⟩ := fill_count Q P lo hlo hq hV hQ m (p + 1) (l1.set p ((lo : Int) + x)) (by omega) hxl
        have ht : (l1.set p ((lo : Int) + x)).take (p + 1) = l.take p ++ [(lo : Int) + x] := by
          rw [List.take_succ_eq_append_getElem (by omega), List.getElem_set_self, List.take_set_of_le (Nat.le_refl p), h2]
        have hpre : ((l1.set p ((lo : Int) + x)).take (p + 1)).map (fun x => x - (lo : Int)) = (l.take p).map (fun x => x - (lo : Int)) ++ [(x : Int)] := by
          rw [ht, List.map_append]
          congr 1
          simp only [List.map_cons, List.map_nil]
          congr 1; omega
        rw [hpre] at h5
        have h6 : l2.take p = l.take p := by
          have := congrArg (List.take p) h4
          rwa [List.take_take, List.take_take, Nat.min_eq_left (by omega), List.take_set_of_le (Nat.le_refl p), h2] at this
        obtain ⟨l', h7, h8, h9⟩ := ih (x + 1) l2 (by omega) h3 h6
        refine ⟨l', h7, h8, Ev.succ ?_⟩
        have hs := sm_le g (q ^ m) (x + 1) fun y _ => hgx y
        have hs2 : (x + 1) * q ^ m ≤ q * q ^ m := Nat.mul_le_mul_right _ (by omega)
        have hs3 : q * q ^ m = q ^ (m + 1) := by rw [Nat.pow_succ, Nat.mul_comm]
        have e1 : cn P q m ((l.take p).map (fun x => x - (lo : Int)) ++ [(x : Int)]) = g x := by rw [← hg]
        rw [e1] at h5
        have e2 : wrap64 (((sm g x : Nat) : Int) + ((g x : Nat) : Int)) = ((sm g (x + 1) : Nat) : Int) := by
          rw [wrap_in (by omega) (by rw [sm] at hs; omega), sm]; omega
        have e3 : wrap64 ((lo : Int) + (x : Int) + 1) = (lo : Int) + ((x + 1 : Nat) : Int) := by rw [wrap_in (by omega) (by omega)]; omega
        simp only [fillL, if_pos (show (lo : Int) + (x : Int) ≤ (lo : Int) + (q : Int) - 1 by omega), show (0 : Int) ≤ (p : Int) by omega, if_true, h1, if_pos (show (p : Int) < (V : Int) by omega), Int.toNat_natCast, wrap_succ (show p < 9223372036854775807 by omega)]
        refine Ev.bind h5 ?_
        simp only [e2, e3]
        exact h9
    obtain ⟨l', h1, h2, h3⟩ := key q 0 l (by omega) hl rfl
    refine ⟨l', h1, h2, Ev.succ ?_⟩
    simp only [fillO, if_neg hne]
    rw [cn, hg]
    simpa [sm] using h3
theorem countO_ev (Q : List Int → Option Bool) (P : List Int → Bool) {V q : Nat} (lo : Nat) (hlo : lo ≤ 1) (hq : q ≤ 4) (hV : V ≤ 8) (hQ : ∀ l : List Int, l.length = V → Q l = some (P (l.map fun x => x - lo))) :
    Ev (fun k => countO Q V lo ((lo : Int) + q - 1) k) ((cn P q V [] : Nat) : Int) := by
  obtain ⟨l', h1, h2, h3⟩ := fill_count Q P lo hlo hq hV hQ V 0 (List.replicate V 0) (by omega) (by simp)
  unfold countO
  simp only [show (0 : Int) ≤ (V : Int) by omega, if_true, Int.toNat_natCast, if_pos (show V * 8 ≤ 281474976710656 by omega)]
  refine Ev.bind h3 ?_
  simp only [List.take_zero, List.map_nil]
  exact Ev.now _
end Go.Proofs.Ytopkfhnnapncgaa.L
end
