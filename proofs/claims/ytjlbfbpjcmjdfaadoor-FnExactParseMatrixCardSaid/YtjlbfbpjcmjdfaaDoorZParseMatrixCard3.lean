/- Several texts of this session in one: Fx4, Base, Bits, Loops, LLists, LSplit, LSets, LMatrix, LCell, LText, LRead, LParse. Conditions: as each theorem says. -/
import Derived.Test.YtjlbfbpjcmjdfaaDoorZParseMatrixCard0
import Derived.Test.YtjlbfbpjcmjdfaaDoorZParseMatrixCard1
import Derived.Test.YtjlbfbpjcmjdfaaDoorZParseMatrixCard2
import Derived.Laws.BitsLemmas
import Derived.Lib.LazyBuf
section
namespace Go.Proofs.YtjlbfbpjcmjdfaaDoor.F
open Go.RowKit Go.Proofs.YtjlbfbpjcmjdfaaDoorW.PrintWords Go.Proofs.YtjlbfbpjcmjdfaaDoorW.PrintLast Go.Proofs.YtjlbfbpjcmjdfaaDoorW.PrintMore
attribute [local go_sem] max2_int min2_int max_two min_two max_three min_three max_four min_four   -- for this text's walks alone
set_option linter.unusedVariables false
set_option linter.unusedSimpArgs false

mutual
def impl_ParseMatrix.l0 : Nat → ByteArray → List ByteArray → Int → Int → Int → Int → Int → List Int → Option (Int × Int × Int × List Int × Bool)
  | 0, _, _, _, _, _, _, _, _ => none
  | k + 1, x0, x51, x52, x53, x183000, x183001, x183002, x183003 => if x53 < x52 then (if 0 ≤ x53 then (if x53 < (x51.length : Int) then (impl_ParseMatrix.l1 k x0 (rdOf ByteArray.empty x51 x53) 0 x51 x52 x53 x183000 x183001 x183002 x183003) else (none)) else (none)) else ((impl_IsMatrix.f k x183000 x183001 x183002 x183003).bind fun t200 => (if t200 = true then ((impl_MatrixText.f k x183000 x183001 x183002 x183003).bind fun t201 => (if t201.toList = x0.toList then (some (x183000, x183001, x183002, x183003, true)) else (some (0, 0, 0, ([] : List Int), false)))) else (some (0, 0, 0, ([] : List Int), false))))
def impl_ParseMatrix.l1 : Nat → ByteArray → ByteArray → Int → List ByteArray → Int → Int → Int → Int → Int → List Int → Option (Int × Int × Int × List Int × Bool)
  | 0, _, _, _, _, _, _, _, _, _, _ => none
  | k + 1, x0, x8, x9, x51, x52, x53, x183000, x183001, x183002, x183003 => if x9 < (x8.size : Int) then (if 0 ≤ x9 then (if x183003.length < 17592186044416 then (impl_ParseMatrix.l1 k x0 x8 (wrap64 (x9 + 1)) x51 x52 x53 x183000 x183001 x183002 (x183003 ++ [wrap64 ((wrap64 (bt x8 x9)) - 48)])) else (none)) else (none)) else (impl_ParseMatrix.l0 k x0 x51 x52 (wrap64 (x53 + 1)) x183000 x183001 x183002 x183003)
end
def impl_ParseMatrix.f (k : Nat) (a0 : ByteArray) : Option (Int × Int × Int × List Int × Bool) := (impl_SplitByte.f a0 32).bind fun t172 => (if (t172.length : Int) < 2 then (some (0, 0, 0, ([] : List Int), false)) else (if 1 < (t172.length : Int) then ((impl_SplitByte.f (rdOf ByteArray.empty t172 1) 120).bind fun t176 => (if (t176.length : Int) = 2 then (if 0 < (t172.length : Int) then ((impl_ParseNumber.f (rdOf ByteArray.empty t172 0)).bind fun bt184 => (if 0 < (t176.length : Int) then ((impl_ParseNumber.f (rdOf ByteArray.empty t176 0)).bind fun bt187 => (if 1 < (t176.length : Int) then ((impl_ParseNumber.f (rdOf ByteArray.empty t176 1)).bind fun bt190 => (if 2 ≤ (t172.length : Int) then ((some (t172.drop 2 : List ByteArray)).bind fun y192 => (impl_ParseMatrix.l0 k a0 y192 (y192.length : Int) 0 bt184.1 bt187.1 bt190.1 (([] : List Int)))) else (none))) else (none))) else (none))) else (none)) else (some (0, 0, 0, ([] : List Int), false)))) else (none)))
def impl_ParseMatrix.T17 : Bool × List (List Nat × List Nat) := (true, [([], []), ([0], [0]), ([], []), ([], []), ([2, 3], [2, 3]), ([4], [4]), ([5], [5]), ([6], [6]), ([1, 7], [1, 7]), ([0, 1, 2, 3, 4, 5, 6, 7, 8], []), ([9, 8, 8, 0, 1, 2, 3, 4, 5, 6, 7, 8], [8, 9])])
def impl_ParseMatrix.B17 : List Nat := [0, 1, 0, 0, 12, 28, 60, 124, 255, 511, 1023]
theorem impl_ParseMatrix.tab17 : rtab .any (opsOf Tryd.f5 17) = impl_ParseMatrix.T17 := by kernel_rfl
theorem impl_ParseMatrix.bits17 : waitsOk impl_ParseMatrix.T17.2 impl_ParseMatrix.B17 = true := by kernel_rfl
set_option maxHeartbeats 8000000 in
set_option maxRecDepth 100000 in
theorem impl_ParseMatrix.calls (k : Nat) (a0 : ByteArray) (r1 : Int) (r2 : Int) (r3 : Int) (r4 : List Int) (r5 : Bool) (w : World) (h : impl_ParseMatrix.f k a0 = some (r1, r2, r3, r4, r5)) (hv : VarsOk w := by exact VarsOk.step HV.out (by repeat (first | (with_reducible first | exact HB.out | apply below_alloc | apply pw_below_drewN | apply below_drew1 | refine below_set ?_ (Aside0.out (by assumption))) | exact HB.out))) :
    Calls Tryd.prog 5 #[.string a0] w fun e w' => ∃ v3_ : Value, e = .returned (.tuple #[.agg #[.int .i64 r1, .int .i64 r2, .int .i64 r3, v3_], .bool r5]) ∧ Kd.R (Kd.int .i64) 3 w' w.heap.size (fun _ => True) v3_ r4 ∧ Below w.heap.size w w' := by
  have hu24 := Tryd.underlying24
  have HV := Aside0.mk hv
  clear hv
  have HB := Aside0.mk (Below.refl w.heap.size w)
  have H : ((impl_SplitByte.f a0 32).bind fun t172 => (if (t172.length : Int) < 2 then (some (0, 0, 0, ([] : List Int), false)) else (if 1 < (t172.length : Int) then ((impl_SplitByte.f (rdOf ByteArray.empty t172 1) 120).bind fun t176 => (if (t176.length : Int) = 2 then (if 0 < (t172.length : Int) then ((impl_ParseNumber.f (rdOf ByteArray.empty t172 0)).bind fun bt184 => (if 0 < (t176.length : Int) then ((impl_ParseNumber.f (rdOf ByteArray.empty t176 0)).bind fun bt187 => (if 1 < (t176.length : Int) then ((impl_ParseNumber.f (rdOf ByteArray.empty t176 1)).bind fun bt190 => (if 2 ≤ (t172.length : Int) then ((some (t172.drop 2 : List ByteArray)).bind fun y192 => (impl_ParseMatrix.l0 k a0 y192 (y192.length : Int) 0 bt184.1 bt187.1 bt190.1 (([] : List Int)))) else (none))) else (none))) else (none))) else (none)) else (some (0, 0, 0, ([] : List Int), false)))) else (none)))) = some (r1, r2, r3, r4, r5) := h
  clear h
  replace H := Option.bind_eq_some_iff.mp H
  obtain ⟨t172, A20, H⟩ := H
  replace H : (if (t172.length : Int) < 2 then (some (0, 0, 0, ([] : List Int), false)) else (if 1 < (t172.length : Int) then ((impl_SplitByte.f (rdOf ByteArray.empty t172 1) 120).bind fun t176 => (if (t176.length : Int) = 2 then (if 0 < (t172.length : Int) then ((impl_ParseNumber.f (rdOf ByteArray.empty t172 0)).bind fun bt184 => (if 0 < (t176.length : Int) then ((impl_ParseNumber.f (rdOf ByteArray.empty t176 0)).bind fun bt187 => (if 1 < (t176.length : Int) then ((impl_ParseNumber.f (rdOf ByteArray.empty t176 1)).bind fun bt190 => (if 2 ≤ (t172.length : Int) then ((some (t172.drop 2 : List ByteArray)).bind fun y192 => (impl_ParseMatrix.l0 k a0 y192 (y192.length : Int) 0 bt184.1 bt187.1 bt190.1 (([] : List Int)))) else (none))) else (none))) else (none))) else (none)) else (some (0, 0, 0, ([] : List Int), false)))) else (none))) = some (r1, r2, r3, r4, r5) := H
  have A2 := Aside0.mk A20
  clear A20
  by_cases c3 : (t172.length : Int) < 2
  · rw [if_pos c3] at H
    have c3b0 : decide ((t172.length : Int) < 2) = true := decide_eq_true c3
    have c3b1 : decide (t172.length < 2) = true := decide_eq_true (by omega)
    clear c3
    simp only [Option.some.injEq, Prod.mk.injEq] at H
    obtain ⟨rfl, rfl, rfl, rfl, rfl⟩ := H
    go_enter Tryd.func5, Tryd.ntmps5
    go_wp2_with (first | ((with_reducible refine gate_dst (N := 2) rfl ?_); refine box_event ?hg (N := 2) ?hd (cs := #[.int .i64 0, .int .i64 0, .int .i64 0, .slice none 0 0]) (t := 24) ?hr ?_; (case hd => rfl); (case hg => rfl); (case hr => exact sqG); intro gb171 hg w4 hbox hb; have n0_ := Aside0.mk (below_step sqB hb); have n1_ := Aside0.mk (hbox); have n2_ := Aside0.mk ((sqS hg : w.heap.size ≤ gb171)); have n3_ := Aside0.mk ((sqS hg : w.heap.size ≤ gb171)); clear HB; have HB := n0_; have BK171 := n1_; have GW171 := n2_; have GE171 := n3_; clear n0_ n1_ n2_ n3_; clear hb hbox hg) | ((with_reducible refine gate_callee (f := 12) rfl ?_); refine goesL_ (some 11) rfl rfl Tryd.func12 (by kernel_rfl) rfl #[.string a0, .int .u8 32] rfl sqM ?_; (with_reducible refine (impl_SplitByte.calls a0 32 t172 _ A2.out).mono ?_); rintro e w5 ⟨v173, rfl, ho0, hb⟩; refine ⟨_, rfl, ?_⟩; have n0_ := Aside0.mk (Kd.R_lower ho0 (below_size sqB)); have n1_ := Aside0.mk (blk_below (g := gb171) (o := .cells #[.int .i64 0, .int .i64 0, .int .i64 0, .slice none 0 0] 24 (0, 0)) (sqK BK171.out) hb); have n2_ := Aside0.mk (below_step sqB hb); clear BK171; clear HB; have HO174 := n0_; have BK171 := n1_; have HB := n2_; clear n0_ n1_ n2_; (try clear hb); (try clear hb2); (try clear hk); (try clear hi); (try clear ho0); obtain ⟨Ao6, co6, eo6⟩ := Kd.R_slice HO174.out; subst eo6; have hcz7_0 : w5.cell? ⟨gb171, 0, none⟩ = some (.int .i64 0) := (blk_cell BK171.out 0).trans rfl; have hcz7_1 : w5.cell? ⟨gb171, 1, none⟩ = some (.int .i64 0) := (blk_cell BK171.out 1).trans rfl; have hcz7_2 : w5.cell? ⟨gb171, 2, none⟩ = some (.int .i64 0) := (blk_cell BK171.out 2).trans rfl; have hcz7_3 : w5.cell? ⟨gb171, 3, none⟩ = some (.slice none 0 0) := (blk_cell BK171.out 3).trans rfl; have hfz7_0 := blk_frozen BK171.out 0; have hfz7_1 := blk_frozen BK171.out 1; have hfz7_2 := blk_frozen BK171.out 2; have hfz7_3 := blk_frozen BK171.out 3))
    refine bodyPost_ret (results_ct rfl _ _ gb171 24 #[.int .i64 0, .int .i64 0, .int .i64 0, .slice none 0 0] (0, 0) _ rfl (by refine sqK ?_; refine blk_put (cs := #[.int .i64 0, .int .i64 0, .int .i64 0, .slice none 0 0]) ?_ 3 _ rfl; refine sqK ?_; refine blk_put (cs := #[.int .i64 0, .int .i64 0, .int .i64 0, .slice none 0 0]) ?_ 2 _ rfl; refine sqK ?_; refine blk_put (cs := #[.int .i64 0, .int .i64 0, .int .i64 0, .slice none 0 0]) ?_ 1 _ rfl; refine sqK ?_; refine blk_put (cs := #[.int .i64 0, .int .i64 0, .int .i64 0, .slice none 0 0]) ?_ 0 _ rfl; refine sqK ?_; exact BK171.out) Tryd.underlying24 rfl (by kernel_rfl)) rfl ?_
    exact ⟨_, sqE, sqN, sqB⟩
  · rw [if_neg c3] at H
    have c3b0 : decide ((t172.length : Int) < 2) = false := decide_eq_false c3
    have c3b1 : decide (t172.length < 2) = false := decide_eq_false (by omega)
    clear c3
    by_cases c8 : 1 < (t172.length : Int)
    · rw [if_pos c8] at H
      have c8b0 : decide (1 < (t172.length : Int)) = true := decide_eq_true c8
      have c8b1 : decide (1 < t172.length) = true := decide_eq_true (by omega)
      clear c8
      replace H := Option.bind_eq_some_iff.mp H
      obtain ⟨t176, A90, H⟩ := H
      replace H : (if (t176.length : Int) = 2 then (if 0 < (t172.length : Int) then ((impl_ParseNumber.f (rdOf ByteArray.empty t172 0)).bind fun bt184 => (if 0 < (t176.length : Int) then ((impl_ParseNumber.f (rdOf ByteArray.empty t176 0)).bind fun bt187 => (if 1 < (t176.length : Int) then ((impl_ParseNumber.f (rdOf ByteArray.empty t176 1)).bind fun bt190 => (if 2 ≤ (t172.length : Int) then ((some (t172.drop 2 : List ByteArray)).bind fun y192 => (impl_ParseMatrix.l0 k a0 y192 (y192.length : Int) 0 bt184.1 bt187.1 bt190.1 (([] : List Int)))) else (none))) else (none))) else (none))) else (none)) else (some (0, 0, 0, ([] : List Int), false))) = some (r1, r2, r3, r4, r5) := H
      have A9 := Aside0.mk A90
      clear A90
      by_cases c10 : (t176.length : Int) = 2
      · rw [if_pos c10] at H
        have c10b0 : ((t176.length : Int) == 2) = true := beq_iff_eq.mpr c10
        have c10b1 : ((t176.length : Int) != 2) = false := bne_eq_false_iff_eq.mpr c10
        clear c10
        obtain ⟨y179, hy179⟩ : ∃ y_ : List Int, y_ = (([] : List Int)) := ⟨_, rfl⟩
        replace H : (if 0 < (t172.length : Int) then ((impl_ParseNumber.f (rdOf ByteArray.empty t172 0)).bind fun bt184 => (if 0 < (t176.length : Int) then ((impl_ParseNumber.f (rdOf ByteArray.empty t176 0)).bind fun bt187 => (if 1 < (t176.length : Int) then ((impl_ParseNumber.f (rdOf ByteArray.empty t176 1)).bind fun bt190 => (if 2 ≤ (t172.length : Int) then ((some (t172.drop 2 : List ByteArray)).bind fun y192 => (impl_ParseMatrix.l0 k a0 y192 (y192.length : Int) 0 bt184.1 bt187.1 bt190.1 y179)) else (none))) else (none))) else (none))) else (none)) = some (r1, r2, r3, r4, r5) := by first | (rw [hy179]; with_reducible exact H) | (have H2_ := (Option.bind_some _ _).symm.trans H; rw [hy179]; with_reducible exact H2_) | (have H2_ := (Option.bind_some _ _).symm.trans H; with_reducible exact H2_) | with_reducible exact H | (rw [hy179]; exact H) | exact H
        have Ny179 := Aside0.mk hy179
        clear hy179
        by_cases c11 : 0 < (t172.length : Int)
        · rw [if_pos c11] at H
          have c11b0 : decide (0 < (t172.length : Int)) = true := decide_eq_true c11
          have c11b1 : decide (0 < t172.length) = true := decide_eq_true (by omega)
          clear c11
          replace H := Option.bind_eq_some_iff.mp H
          obtain ⟨⟨t184, t185⟩, A120, H⟩ := H
          replace H : (if 0 < (t176.length : Int) then ((impl_ParseNumber.f (rdOf ByteArray.empty t176 0)).bind fun bt187 => (if 1 < (t176.length : Int) then ((impl_ParseNumber.f (rdOf ByteArray.empty t176 1)).bind fun bt190 => (if 2 ≤ (t172.length : Int) then ((some (t172.drop 2 : List ByteArray)).bind fun y192 => (impl_ParseMatrix.l0 k a0 y192 (y192.length : Int) 0 t184 bt187.1 bt190.1 y179)) else (none))) else (none))) else (none)) = some (r1, r2, r3, r4, r5) := H
          have A12 := Aside0.mk A120
          clear A120
          by_cases c13 : 0 < (t176.length : Int)
          · rw [if_pos c13] at H
            have c13b0 : decide (0 < (t176.length : Int)) = true := decide_eq_true c13
            have c13b1 : decide (0 < t176.length) = true := decide_eq_true (by omega)
            clear c13
            replace H := Option.bind_eq_some_iff.mp H
            obtain ⟨⟨t187, t188⟩, A140, H⟩ := H
            replace H : (if 1 < (t176.length : Int) then ((impl_ParseNumber.f (rdOf ByteArray.empty t176 1)).bind fun bt190 => (if 2 ≤ (t172.length : Int) then ((some (t172.drop 2 : List ByteArray)).bind fun y192 => (impl_ParseMatrix.l0 k a0 y192 (y192.length : Int) 0 t184 t187 bt190.1 y179)) else (none))) else (none)) = some (r1, r2, r3, r4, r5) := H
            have A14 := Aside0.mk A140
            clear A140
            by_cases c15 : 1 < (t176.length : Int)
            · rw [if_pos c15] at H
              have c15b0 : decide (1 < (t176.length : Int)) = true := decide_eq_true c15
              have c15b1 : decide (1 < t176.length) = true := decide_eq_true (by omega)
              clear c15
              replace H := Option.bind_eq_some_iff.mp H
              obtain ⟨⟨t190, t191⟩, A160, H⟩ := H
              replace H : (if 2 ≤ (t172.length : Int) then ((some (t172.drop 2 : List ByteArray)).bind fun y192 => (impl_ParseMatrix.l0 k a0 y192 (y192.length : Int) 0 t184 t187 t190 y179)) else (none)) = some (r1, r2, r3, r4, r5) := H
              have A16 := Aside0.mk A160
              clear A160
              by_cases c17 : 2 ≤ (t172.length : Int)
              · rw [if_pos c17] at H
                have c17b0 := eq_true c17
                have c17b1 : decide (2 ≤ (t172.length : Int)) = true := decide_eq_true c17
                clear c17
                obtain ⟨y192, hy192⟩ : ∃ y_ : List ByteArray, y_ = (t172.drop 2) := ⟨_, rfl⟩
                replace H : (impl_ParseMatrix.l0 k a0 y192 (y192.length : Int) 0 t184 t187 t190 y179) = some (r1, r2, r3, r4, r5) := by first | (rw [hy192]; with_reducible exact H) | (have H2_ := (Option.bind_some _ _).symm.trans H; rw [hy192]; with_reducible exact H2_) | (have H2_ := (Option.bind_some _ _).symm.trans H; with_reducible exact H2_) | with_reducible exact H | (rw [hy192]; exact H) | exact H
                have Ny192 := Aside0.mk hy192
                clear hy192
                have H' := Aside0.mk H
                clear H
                go_enter Tryd.func5, Tryd.ntmps5
                go_wp2_with (first | ((with_reducible refine gate_dst (N := 2) rfl ?_); refine box_event ?hg (N := 2) ?hd (cs := #[.int .i64 0, .int .i64 0, .int .i64 0, .slice none 0 0]) (t := 24) ?hr ?_; (case hd => rfl); (case hg => rfl); (case hr => exact sqG); intro gb171 hg w18 hbox hb; have n0_ := Aside0.mk (below_step sqB hb); have n1_ := Aside0.mk (hbox); have n2_ := Aside0.mk ((sqS hg : w.heap.size ≤ gb171)); have n3_ := Aside0.mk ((sqS hg : w.heap.size ≤ gb171)); clear HB; have HB := n0_; have BK171 := n1_; have GW171 := n2_; have GE171 := n3_; clear n0_ n1_ n2_ n3_; clear hb hbox hg) | ((with_reducible refine gate_callee (f := 12) rfl ?_); refine goesL_ (some 11) rfl rfl Tryd.func12 (by kernel_rfl) rfl #[.string a0, .int .u8 32] rfl sqM ?_; (with_reducible refine (impl_SplitByte.calls a0 32 t172 _ A2.out).mono ?_); rintro e w19 ⟨v173, rfl, ho0, hb⟩; refine ⟨_, rfl, ?_⟩; have n0_ := Aside0.mk (Kd.R_lower ho0 (below_size sqB)); have n1_ := Aside0.mk (blk_below (g := gb171) (o := .cells #[.int .i64 0, .int .i64 0, .int .i64 0, .slice none 0 0] 24 (0, 0)) (sqK BK171.out) hb); have n2_ := Aside0.mk (below_step sqB hb); clear BK171; clear HB; have HO174 := n0_; have BK171 := n1_; have HB := n2_; clear n0_ n1_ n2_; (try clear hb); (try clear hb2); (try clear hk); (try clear hi); (try clear ho0); obtain ⟨Ao20, co20, eo20⟩ := Kd.R_slice HO174.out; subst eo20; have p175 : 0 ≤ (1 : Int) := (by omega); have q175 : 1 < (t172.length : Int) := of_decide_eq_true sqA; obtain ⟨ad175, e175, hx175_0⟩ := Kd.at_string (Kd.R_reads' HO174.out).2.2 1 p175 q175; cases e175; (try simp only [show (1 : Int).toNat = 1 from rfl, Nat.reduceMul, Nat.reduceEqDiff, Go.Addr.add, ↓reduceIte] at hx175_0); have qi175 : (1 < t172.length) = True := eq_true (by omega); (try rw [show ((1 : Int)).toNat = 1 from rfl] at hx175_0); replace p175 := eq_true p175; replace q175 := eq_true q175) | ((with_reducible refine gate_callee (f := 12) rfl ?_); refine goesL_ (some 19) rfl rfl Tryd.func12 (by kernel_rfl) rfl #[.string (rdOf ByteArray.empty t172 1), .int .u8 120] rfl sqM ?_; (with_reducible refine (impl_SplitByte.calls (rdOf ByteArray.empty t172 1) 120 t176 _ A9.out).mono ?_); rintro e w21 ⟨v177, rfl, ho0, hb⟩; refine ⟨_, rfl, ?_⟩; have n0_ := Aside0.mk (Kd.R_elder' (sqR HO174.out) (Kd.R_base ho0) hb); have n1_ := Aside0.mk (Kd.R_lower (Kd.R_new' ho0 (Kd.R_lt (sqR HO174.out))) (below_size sqB)); have n2_ := Aside0.mk (blk_below (g := gb171) (o := .cells #[.int .i64 0, .int .i64 0, .int .i64 0, .slice none 0 0] 24 (0, 0)) (sqK BK171.out) hb); have n3_ := Aside0.mk (below_step sqB hb); clear HO174; clear BK171; clear HB; have HO174 := n0_; have HO178 := n1_; have BK171 := n2_; have HB := n3_; clear n0_ n1_ n2_ n3_; (try clear hb); (try clear hb2); (try clear hk); (try clear hi); (try clear ho0); obtain ⟨Ao22, co22, eo22⟩ := Kd.R_slice HO178.out; subst eo22) | ((with_reducible refine gate_dst (N := 24) rfl ?_); refine Kd.R_lit (Kd.int .i64) _ 3 ?hg (N := 24) ?hd (xs := ([] : List Int)) (inner := []) (ok := fun _ => True) (okp := fun _ => True) ?hr ?hp (fun _ hk => hk) trivial (Below.refl _ _) (Nat.le_refl _) (by simp) ?_; (case hd => rfl); (case hg => rfl); (case hr => exact sqG); (case hp => exact (Reps.none _ _)); intro v180 w23 ho24 hb hg_ hnew_; clear hg_ hnew_; (first | rw [← Ny179.out] at ho24 | (simp only [Int.reduceToNat] at ho24; rw [← Ny179.out] at ho24)); have n0_ := Aside0.mk (Kd.R_below (sqR HO174.out) hb); have n1_ := Aside0.mk (Kd.R_below (sqR HO178.out) hb); have n2_ := Aside0.mk (Kd.R_lower ho24 (below_size sqB)); have n3_ := Aside0.mk (blk_below (g := gb171) (o := .cells #[.int .i64 0, .int .i64 0, .int .i64 0, .slice none 0 0] 24 (0, 0)) (sqK BK171.out) hb); have n4_ := Aside0.mk (below_step sqB hb); clear HO174; clear HO178; clear BK171; clear HB; have HO174 := n0_; have HO178 := n1_; have HO181 := n2_; have BK171 := n3_; have HB := n4_; clear n0_ n1_ n2_ n3_ n4_; clear hb ho24; obtain ⟨Ao25, co25, eo25⟩ := Kd.R_slice HO181.out; subst eo25) | ((with_reducible refine gate_dst (N := 6) rfl ?_); refine box_event ?hg (N := 6) ?hd (cs := #[.int .i64 0, .int .i64 0, .int .i64 0, .slice none 0 0]) (t := 24) ?hr ?_; (case hd => rfl); (case hg => rfl); (case hr => exact sqG); intro gb182 hg w26 hbox hb; have n0_ := Aside0.mk (Kd.R_below (sqR HO174.out) hb); have n1_ := Aside0.mk (Kd.R_below (sqR HO178.out) hb); have n2_ := Aside0.mk (Kd.R_below (sqR HO181.out) hb); have n3_ := Aside0.mk (blk_below (g := gb171) (o := .cells #[.int .i64 0, .int .i64 0, .int .i64 0, .slice none 0 0] 24 (0, 0)) (sqK BK171.out) hb); have n4_ := Aside0.mk (below_step sqB hb); have n5_ := Aside0.mk (hbox); have n6_ := Aside0.mk ((sqS hg : w.heap.size ≤ gb182)); have n7_ := Aside0.mk ((sqS hg : w.heap.size ≤ gb182)); have n8_ := Aside0.mk ((by rw [hg]; exact Nat.ne_of_lt (blk_lt (g := gb171) (o := .cells #[.int .i64 0, .int .i64 0, .int .i64 0, .slice none 0 0] 24 (0, 0)) (sqK BK171.out)) : gb171 ≠ gb182)); have n9_ := Aside0.mk ((by rw [hg]; exact Nat.ne_of_gt (blk_lt (g := gb171) (o := .cells #[.int .i64 0, .int .i64 0, .int .i64 0, .slice none 0 0] 24 (0, 0)) (sqK BK171.out)) : gb182 ≠ gb171)); clear HO174; clear HO178; clear HO181; clear BK171; clear HB; have HO174 := n0_; have HO178 := n1_; have HO181 := n2_; have BK171 := n3_; have HB := n4_; have BK182 := n5_; have GW182 := n6_; have GE182 := n7_; have NB171_182 := n8_; have NB182_171 := n9_; clear n0_ n1_ n2_ n3_ n4_ n5_ n6_ n7_ n8_ n9_; clear hb hbox hg; have hnb27 := NB182_171.out; have hnc27 := NB171_182.out; have hcz28_0 : w26.cell? ⟨gb182, 0, none⟩ = some (.int .i64 0) := (blk_cell BK182.out 0).trans rfl; have hcz28_1 : w26.cell? ⟨gb182, 1, none⟩ = some (.int .i64 0) := (blk_cell BK182.out 1).trans rfl; have hcz28_2 : w26.cell? ⟨gb182, 2, none⟩ = some (.int .i64 0) := (blk_cell BK182.out 2).trans rfl; have hcz28_3 : w26.cell? ⟨gb182, 3, none⟩ = some (.slice none 0 0) := (blk_cell BK182.out 3).trans rfl; have hfz28_0 := blk_frozen BK182.out 0; have hfz28_1 := blk_frozen BK182.out 1; have hfz28_2 := blk_frozen BK182.out 2; have hfz28_3 := blk_frozen BK182.out 3; have p183 : 0 ≤ (0 : Int) := (by omega); have q183 : 0 < (t172.length : Int) := of_decide_eq_true sqA; obtain ⟨ad183, e183, hx183_0⟩ := Kd.at_string (Kd.R_reads' HO174.out).2.2 0 p183 q183; obtain rfl : ad175 = ad183 := (by injection e183); have qi183 : (0 < t172.length) = True := eq_true (by omega); (try rw [show ((0 : Int)).toNat = 0 from rfl] at hx183_0); (try rw [Addr.add_zero'] at hx183_0); have hn183_0 : ad175.block ≠ gb182 := Kd.own_blk (Kd.R_ne HO174.out BK182.out (by decide)); have hn183_1 : ad175.block ≠ gb182 := Kd.own_blk (Kd.R_ne HO174.out BK182.out (by decide)); have hn183_2 : ad175.block ≠ gb182 := Kd.own_blk (Kd.R_ne HO174.out BK182.out (by decide)); have hn183_3 : ad175.block ≠ gb182 := Kd.own_blk (Kd.R_ne HO174.out BK182.out (by decide)); replace hx183_0 := (cell_far (p := ⟨gb182, 0, none⟩) (by first | (rw [add_block]; exact hn183_0) | (show (Addr.add _ _).block ≠ _; rw [add_block]; exact hn183_0) | exact hn183_0) (.int .i64 0)).trans hx183_0; replace hx183_0 := (cell_far (p := ⟨gb182, 1, none⟩) (by first | (rw [add_block]; exact hn183_1) | (show (Addr.add _ _).block ≠ _; rw [add_block]; exact hn183_1) | exact hn183_1) (.int .i64 0)).trans hx183_0; replace hx183_0 := (cell_far (p := ⟨gb182, 2, none⟩) (by first | (rw [add_block]; exact hn183_2) | (show (Addr.add _ _).block ≠ _; rw [add_block]; exact hn183_2) | exact hn183_2) (.int .i64 0)).trans hx183_0; replace hx183_0 := (cell_far (p := ⟨gb182, 3, none⟩) (by first | (rw [add_block]; exact hn183_3) | (show (Addr.add _ _).block ≠ _; rw [add_block]; exact hn183_3) | exact hn183_3) (.slice Ao25 y179.length co25)).trans hx183_0; clear hn183_0; clear hn183_1; clear hn183_2; clear hn183_3; replace p183 := eq_true p183; replace q183 := eq_true q183) | ((with_reducible refine gate_callee (f := 13) rfl ?_); refine goesL_ (some 30) rfl rfl Tryd.func13 (by kernel_rfl) rfl #[.string (rdOf ByteArray.empty t172 0)] rfl sqM ?_; (with_reducible refine (impl_ParseNumber.calls (rdOf ByteArray.empty t172 0) t184 t185 _ A12.out).mono ?_); rintro e w29 ⟨rfl, hb⟩; refine ⟨_, rfl, ?_⟩; have n0_ := Aside0.mk (Kd.R_below (by refine sqR ?_; exact (Kd.R_mono (Kd.R_far (p := ⟨gb182, 3, none⟩) (Kd.R_far (p := ⟨gb182, 2, none⟩) (Kd.R_far (p := ⟨gb182, 1, none⟩) (Kd.R_far (p := ⟨gb182, 0, none⟩) (Kd.R_types HO174.out BK182.out (by decide)) (fun _ hk => hk.2) (.int .i64 0)) (fun _ hk => hk.2) (.int .i64 0)) (fun _ hk => hk.2) (.int .i64 0)) (fun _ hk => hk.2) (.slice Ao25 y179.length co25)) (fun _ h_ => h_.1))) hb); have n1_ := Aside0.mk (Kd.R_below (by refine sqR ?_; exact (Kd.R_mono (Kd.R_far (p := ⟨gb182, 3, none⟩) (Kd.R_far (p := ⟨gb182, 2, none⟩) (Kd.R_far (p := ⟨gb182, 1, none⟩) (Kd.R_far (p := ⟨gb182, 0, none⟩) (Kd.R_types HO178.out BK182.out (by decide)) (fun _ hk => hk.2) (.int .i64 0)) (fun _ hk => hk.2) (.int .i64 0)) (fun _ hk => hk.2) (.int .i64 0)) (fun _ hk => hk.2) (.slice Ao25 y179.length co25)) (fun _ h_ => h_.1))) hb); have n2_ := Aside0.mk (Kd.R_below (by refine sqR ?_; exact (Kd.R_mono (Kd.R_far (p := ⟨gb182, 3, none⟩) (Kd.R_far (p := ⟨gb182, 2, none⟩) (Kd.R_far (p := ⟨gb182, 1, none⟩) (Kd.R_far (p := ⟨gb182, 0, none⟩) (Kd.R_types HO181.out BK182.out (by decide)) (fun _ hk => hk.2) (.int .i64 0)) (fun _ hk => hk.2) (.int .i64 0)) (fun _ hk => hk.2) (.int .i64 0)) (fun _ hk => hk.2) (.slice Ao25 y179.length co25)) (fun _ h_ => h_.1))) hb); have n3_ := Aside0.mk (blk_below (g := gb171) (o := .cells #[.int .i64 0, .int .i64 0, .int .i64 0, .slice none 0 0] 24 (0, 0)) (by refine sqK ?_; refine blk_far ?_ NB171_182.out _; refine sqK ?_; refine blk_far ?_ NB171_182.out _; refine sqK ?_; refine blk_far ?_ NB171_182.out _; refine sqK ?_; refine blk_far ?_ NB171_182.out _; refine sqK ?_; exact BK171.out) hb); have n4_ := Aside0.mk (blk_below (g := gb182) (o := .cells #[.int .i64 0, .int .i64 0, .int .i64 0, .slice Ao25 y179.length co25] 24 (0, 0)) (by refine sqK ?_; refine blk_put (cs := #[.int .i64 0, .int .i64 0, .int .i64 0, .slice none 0 0]) ?_ 3 _ rfl; refine sqK ?_; refine blk_put (cs := #[.int .i64 0, .int .i64 0, .int .i64 0, .slice none 0 0]) ?_ 2 _ rfl; refine sqK ?_; refine blk_put (cs := #[.int .i64 0, .int .i64 0, .int .i64 0, .slice none 0 0]) ?_ 1 _ rfl; refine sqK ?_; refine blk_put (cs := #[.int .i64 0, .int .i64 0, .int .i64 0, .slice none 0 0]) ?_ 0 _ rfl; refine sqK ?_; exact BK182.out) hb); have n5_ := Aside0.mk (below_step sqB hb); clear HO174; clear HO178; clear HO181; clear BK171; clear BK182; clear HB; have HO174 := n0_; have HO178 := n1_; have HO181 := n2_; have BK171 := n3_; have BK182 := n4_; have HB := n5_; clear n0_ n1_ n2_ n3_ n4_ n5_; (try clear hb); (try clear hb2); (try clear hk); (try clear hi); have hcz30_0 : w29.cell? ⟨gb182, 0, none⟩ = some (.int .i64 0) := (blk_cell BK182.out 0).trans rfl; have hcz30_1 : w29.cell? ⟨gb182, 1, none⟩ = some (.int .i64 0) := (blk_cell BK182.out 1).trans rfl; have hcz30_2 : w29.cell? ⟨gb182, 2, none⟩ = some (.int .i64 0) := (blk_cell BK182.out 2).trans rfl; have hcz30_3 : w29.cell? ⟨gb182, 3, none⟩ = some (.slice Ao25 y179.length co25) := (blk_cell BK182.out 3).trans rfl; have hfz30_0 := blk_frozen BK182.out 0; have hfz30_1 := blk_frozen BK182.out 1; have hfz30_2 := blk_frozen BK182.out 2; have hfz30_3 := blk_frozen BK182.out 3; have p186 : 0 ≤ (0 : Int) := (by omega); have q186 : 0 < (t176.length : Int) := of_decide_eq_true sqA; obtain ⟨ad186, e186, hx186_0⟩ := Kd.at_string (Kd.R_reads' HO178.out).2.2 0 p186 q186; cases e186; have qi186 : (0 < t176.length) = True := eq_true (by omega); (try rw [show ((0 : Int)).toNat = 0 from rfl] at hx186_0); (try rw [Addr.add_zero'] at hx186_0); have hn186_0 : ad186.block ≠ gb182 := Kd.own_blk (Kd.R_ne HO178.out BK182.out (by decide)); replace hx186_0 := (cell_far (p := ⟨gb182, 0, none⟩) (by first | (rw [add_block]; exact hn186_0) | (show (Addr.add _ _).block ≠ _; rw [add_block]; exact hn186_0) | exact hn186_0) (.int .i64 t184)).trans hx186_0; clear hn186_0; replace p186 := eq_true p186; replace q186 := eq_true q186) | ((with_reducible refine gate_callee (f := 13) rfl ?_); refine goesL_ (some 38) rfl rfl Tryd.func13 (by kernel_rfl) rfl #[.string (rdOf ByteArray.empty t176 0)] rfl sqM ?_; (with_reducible refine (impl_ParseNumber.calls (rdOf ByteArray.empty t176 0) t187 t188 _ A14.out).mono ?_); rintro e w31 ⟨rfl, hb⟩; refine ⟨_, rfl, ?_⟩; have n0_ := Aside0.mk (Kd.R_below (by refine sqR ?_; exact (Kd.R_mono (Kd.R_far (p := ⟨gb182, 0, none⟩) (Kd.R_types HO174.out BK182.out (by decide)) (fun _ hk => hk.2) (.int .i64 t184)) (fun _ h_ => h_.1))) hb); have n1_ := Aside0.mk (Kd.R_below (by refine sqR ?_; exact (Kd.R_mono (Kd.R_far (p := ⟨gb182, 0, none⟩) (Kd.R_types HO178.out BK182.out (by decide)) (fun _ hk => hk.2) (.int .i64 t184)) (fun _ h_ => h_.1))) hb); have n2_ := Aside0.mk (Kd.R_below (by refine sqR ?_; exact (Kd.R_mono (Kd.R_far (p := ⟨gb182, 0, none⟩) (Kd.R_types HO181.out BK182.out (by decide)) (fun _ hk => hk.2) (.int .i64 t184)) (fun _ h_ => h_.1))) hb); have n3_ := Aside0.mk (blk_below (g := gb171) (o := .cells #[.int .i64 0, .int .i64 0, .int .i64 0, .slice none 0 0] 24 (0, 0)) (by refine sqK ?_; refine blk_far ?_ NB171_182.out _; refine sqK ?_; exact BK171.out) hb); have n4_ := Aside0.mk (blk_below (g := gb182) (o := .cells #[.int .i64 t184, .int .i64 0, .int .i64 0, .slice Ao25 y179.length co25] 24 (0, 0)) (by refine sqK ?_; refine blk_put (cs := #[.int .i64 0, .int .i64 0, .int .i64 0, .slice Ao25 y179.length co25]) ?_ 0 _ rfl; refine sqK ?_; exact BK182.out) hb); have n5_ := Aside0.mk (below_step sqB hb); clear HO174; clear HO178; clear HO181; clear BK171; clear BK182; clear HB; have HO174 := n0_; have HO178 := n1_; have HO181 := n2_; have BK171 := n3_; have BK182 := n4_; have HB := n5_; clear n0_ n1_ n2_ n3_ n4_ n5_; (try clear hb); (try clear hb2); (try clear hk); (try clear hi); have hcz32_0 : w31.cell? ⟨gb182, 0, none⟩ = some (.int .i64 t184) := (blk_cell BK182.out 0).trans rfl; have hcz32_1 : w31.cell? ⟨gb182, 1, none⟩ = some (.int .i64 0) := (blk_cell BK182.out 1).trans rfl; have hcz32_2 : w31.cell? ⟨gb182, 2, none⟩ = some (.int .i64 0) := (blk_cell BK182.out 2).trans rfl; have hcz32_3 : w31.cell? ⟨gb182, 3, none⟩ = some (.slice Ao25 y179.length co25) := (blk_cell BK182.out 3).trans rfl; have hfz32_0 := blk_frozen BK182.out 0; have hfz32_1 := blk_frozen BK182.out 1; have hfz32_2 := blk_frozen BK182.out 2; have hfz32_3 := blk_frozen BK182.out 3; have p189 : 0 ≤ (1 : Int) := (by omega); have q189 : 1 < (t176.length : Int) := of_decide_eq_true sqA; obtain ⟨ad189, e189, hx189_0⟩ := Kd.at_string (Kd.R_reads' HO178.out).2.2 1 p189 q189; obtain rfl : ad186 = ad189 := (by injection e189); (try simp only [show (1 : Int).toNat = 1 from rfl, Nat.reduceMul, Nat.reduceEqDiff, Go.Addr.add, ↓reduceIte] at hx189_0); have qi189 : (1 < t176.length) = True := eq_true (by omega); (try rw [show ((1 : Int)).toNat = 1 from rfl] at hx189_0); have hn189_0 : ad186.block ≠ gb182 := Kd.own_blk (Kd.R_ne HO178.out BK182.out (by decide)); replace hx189_0 := (cell_far (p := ⟨gb182, 1, none⟩) (by first | (rw [add_block]; exact hn189_0) | (show (Addr.add _ _).block ≠ _; rw [add_block]; exact hn189_0) | exact hn189_0) (.int .i64 t187)).trans hx189_0; clear hn189_0; replace p189 := eq_true p189; replace q189 := eq_true q189) | ((with_reducible refine gate_callee (f := 13) rfl ?_); refine goesL_ (some 46) rfl rfl Tryd.func13 (by kernel_rfl) rfl #[.string (rdOf ByteArray.empty t176 1)] rfl sqM ?_; (with_reducible refine (impl_ParseNumber.calls (rdOf ByteArray.empty t176 1) t190 t191 _ A16.out).mono ?_); rintro e w33 ⟨rfl, hb⟩; refine ⟨_, rfl, ?_⟩; have n0_ := Aside0.mk (Kd.R_below (by refine sqR ?_; exact (Kd.R_mono (Kd.R_far (p := ⟨gb182, 1, none⟩) (Kd.R_types HO174.out BK182.out (by decide)) (fun _ hk => hk.2) (.int .i64 t187)) (fun _ h_ => h_.1))) hb); have n1_ := Aside0.mk (Kd.R_below (by refine sqR ?_; exact (Kd.R_mono (Kd.R_far (p := ⟨gb182, 1, none⟩) (Kd.R_types HO178.out BK182.out (by decide)) (fun _ hk => hk.2) (.int .i64 t187)) (fun _ h_ => h_.1))) hb); have n2_ := Aside0.mk (Kd.R_below (by refine sqR ?_; exact (Kd.R_mono (Kd.R_far (p := ⟨gb182, 1, none⟩) (Kd.R_types HO181.out BK182.out (by decide)) (fun _ hk => hk.2) (.int .i64 t187)) (fun _ h_ => h_.1))) hb); have n3_ := Aside0.mk (blk_below (g := gb171) (o := .cells #[.int .i64 0, .int .i64 0, .int .i64 0, .slice none 0 0] 24 (0, 0)) (by refine sqK ?_; refine blk_far ?_ NB171_182.out _; refine sqK ?_; exact BK171.out) hb); have n4_ := Aside0.mk (blk_below (g := gb182) (o := .cells #[.int .i64 t184, .int .i64 t187, .int .i64 0, .slice Ao25 y179.length co25] 24 (0, 0)) (by refine sqK ?_; refine blk_put (cs := #[.int .i64 t184, .int .i64 0, .int .i64 0, .slice Ao25 y179.length co25]) ?_ 1 _ rfl; refine sqK ?_; exact BK182.out) hb); have n5_ := Aside0.mk (below_step sqB hb); clear HO174; clear HO178; clear HO181; clear BK171; clear BK182; clear HB; have HO174 := n0_; have HO178 := n1_; have HO181 := n2_; have BK171 := n3_; have BK182 := n4_; have HB := n5_; clear n0_ n1_ n2_ n3_ n4_ n5_; (try clear hb); (try clear hb2); (try clear hk); (try clear hi); have hcz34_0 : w33.cell? ⟨gb182, 0, none⟩ = some (.int .i64 t184) := (blk_cell BK182.out 0).trans rfl; have hcz34_1 : w33.cell? ⟨gb182, 1, none⟩ = some (.int .i64 t187) := (blk_cell BK182.out 1).trans rfl; have hcz34_2 : w33.cell? ⟨gb182, 2, none⟩ = some (.int .i64 0) := (blk_cell BK182.out 2).trans rfl; have hcz34_3 : w33.cell? ⟨gb182, 3, none⟩ = some (.slice Ao25 y179.length co25) := (blk_cell BK182.out 3).trans rfl; have hfz34_0 := blk_frozen BK182.out 0; have hfz34_1 := blk_frozen BK182.out 1; have hfz34_2 := blk_frozen BK182.out 2; have hfz34_3 := blk_frozen BK182.out 3) | ((with_reducible refine gate_store (t := 3) (p := 49) rfl ?_); refine store_event (t := 3) (p := 49) (v := ?vo_w35) (w1 := (w33.setCell ⟨gb182, 2, none⟩ (.int .i64 t190))) ?hg ?ho ?hn ?hr ?_; (case ho => rfl); (case hg => rfl); (case hn => rfl); (case hr => exact sqG); intro w35 hw; have n0_ : Aside0 (Kd.R Kd.string 9 w35 w.heap.size (fun k_ => some k_ ≠ (.slice (some ad186) t176.length co22 : Value).ownBlock) (.slice (some ad175) t172.length co20) t172) := ⟨(by rw [hw]; exact (by refine sqR ?_; exact Kd.R_mono (Kd.R_far (p := ⟨gb182, 2, none⟩) (Kd.R_types HO174.out BK182.out (by decide)) (fun _ hk => hk.2) (.int .i64 t190)) (fun _ hk => hk.1.2)))⟩; have n1_ : Aside0 (Kd.R Kd.string 9 w35 w.heap.size (fun k_ => some k_ ≠ (.slice (some ad175) t172.length co20 : Value).ownBlock) (.slice (some ad186) t176.length co22) t176) := ⟨(by rw [hw]; exact (by refine sqR ?_; exact Kd.R_mono (Kd.R_far (p := ⟨gb182, 2, none⟩) (Kd.R_types HO178.out BK182.out (by decide)) (fun _ hk => hk.2) (.int .i64 t190)) (fun _ hk => hk.1.2)))⟩; have n2_ : Aside0 (Kd.R (Kd.int .i64) 3 w35 w.heap.size (fun _ => True) (.slice Ao25 y179.length co25) y179) := ⟨(by rw [hw]; exact (by refine sqR ?_; exact Kd.R_mono (Kd.R_far (p := ⟨gb182, 2, none⟩) (Kd.R_types HO181.out BK182.out (by decide)) (fun _ hk => hk.2) (.int .i64 t190)) (fun _ hk => trivial)))⟩; have n3_ : Aside0 (w35.heap[gb171]? = some (.cells #[.int .i64 0, .int .i64 0, .int .i64 0, .slice none 0 0] 24 (0, 0))) := ⟨(by rw [hw]; exact (by refine sqK ?_; refine blk_far ?_ NB171_182.out _; refine sqK ?_; exact BK171.out))⟩; have n4_ : Aside0 (w35.heap[gb182]? = some (.cells #[.int .i64 t184, .int .i64 t187, .int .i64 t190, .slice Ao25 y179.length co25] 24 (0, 0))) := ⟨(by rw [hw]; exact (by refine sqK ?_; refine blk_put (cs := #[.int .i64 t184, .int .i64 t187, .int .i64 0, .slice Ao25 y179.length co25]) ?_ 2 _ rfl; refine sqK ?_; exact BK182.out))⟩; have n5_ : Aside0 (Below w.heap.size w w35) := ⟨(by rw [hw]; exact sqB)⟩; clear hw; clear HO174; clear HO178; clear HO181; clear BK171; clear BK182; clear HB; have HO174 := n0_; have HO178 := n1_; have HO181 := n2_; have BK171 := n3_; have BK182 := n4_; have HB := n5_; clear n0_ n1_ n2_ n3_ n4_ n5_; have q36 : (2 : Int) ≤ ((t172.length : Int) : Int) := of_decide_eq_true sqA; obtain ⟨i036, hi036, _, hsz36, _⟩ := info_parts info9; have hroom36 : t172.length ≤ co20 := (Kd.R_reads' HO174.out).2.1; have hC36 : Kd.C Kd.string _ (some ad175) t172.length t172 := (Kd.R_reads' HO174.out).2.2; have hcut36 := cut_from (P := Tryd.prog) 30 9 .i64 Tryd.underlying30 hi036 1 hsz36 (some ad175) t172.length co20 2 (by omega) q36; have hr36 := Kd.C_drop (m := (2 : Int).toNat) (c := co20) hC36 (by omega) hroom36; obtain ⟨A36, hA36⟩ : ∃ A1, A1 = (if co20 = (2 : Int).toNat then (some ad175) else ((some ad175) : Option Addr).map (·.add ((2 : Int).toNat * 1))) := ⟨_, rfl⟩; obtain ⟨c36, hc36⟩ : ∃ c1, c1 = co20 - (2 : Int).toNat := ⟨_, rfl⟩; have hy36 : y192.length = t172.length - (2 : Int).toNat := (by rw [Ny192.out, List.length_drop] <;> omega); rw [show (t172).drop (2 : Int).toNat = y192 from Ny192.out.symm] at hr36; replace hr36 : Kd.C Kd.string _ A36 y192.length y192 := (by rw [hA36]; exact hr36); rw [← hy36, ← hA36, ← hc36] at hcut36; have HR195 := Aside0.mk hr36; have HC195 := Aside0.mk (show y192.length ≤ c36 from by rw [hy36, hc36]; exact Nat.sub_le_sub_right hroom36 _); clear hr36 hC36 hroom36 hi036 hsz36 hc36; have KY36 := Aside0.mk hy36; have KA36 := Aside0.mk hA36; clear hy36 hA36; have KL36 := Aside0.mk (show 2 ≤ t172.length from by omega); replace q36 := eq_true q36))
                go_loopg [53] k (fun kq v53 w' => ∃ (x53_1 : Int) (x183003_1 : List Int) (u183003 : Value), v53 = .int .i64 x53_1 ∧ Aside0 (impl_ParseMatrix.l0 kq a0 y192 (y192.length : Int) x53_1 t184 t187 t190 x183003_1 = some (r1, r2, r3, r4, r5)) ∧ Aside0 (kq ≤ k) ∧ Aside0 (Kd.R Kd.string 9 w' w.heap.size (fun _ => True) (.slice (some ad175) t172.length co20) t172) ∧ Aside0 (Kd.R (Kd.int .i64) 3 w' w.heap.size (fun _ => True) u183003 x183003_1) ∧ Aside0 (w'.heap[gb171]? = some (.cells #[.int .i64 0, .int .i64 0, .int .i64 0, (.slice none 0 0)] 24 (0, 0))) ∧ Aside0 (w'.heap[gb182]? = some (.cells #[.int .i64 t184, .int .i64 t187, .int .i64 t190, u183003] 24 (0, 0))) ∧ Aside0 (Below w.heap.size w w'))
                case atStart => exact ⟨(0), (y179), (.slice Ao25 y179.length co25), (sqD), H', ⟨Nat.le_refl _⟩, ⟨by refine sqR ?_; exact Kd.R_mono HO174.out (fun _ _ => trivial)⟩, ⟨sqR HO181.out⟩, ⟨sqK BK171.out⟩, ⟨sqK BK182.out⟩, ⟨sqB⟩⟩
                case round =>
                  clear H'
                  try clear c1
                  try clear p1
                  try clear q1
                  try clear hx1
                  try clear qi1
                  try clear c2
                  try clear p2
                  try clear c3
                  try clear c3b0
                  try clear c3b1
                  try clear q3
                  try clear c5
                  try clear c8
                  try clear c8b0
                  try clear c8b1
                  try clear c10
                  try clear c10b0
                  try clear c10b1
                  try clear c11
                  try clear c11b0
                  try clear c11b1
                  try clear c12
                  try clear c13
                  try clear c13b0
                  try clear c13b1
                  try clear c15
                  try clear c15b0
                  try clear c15b1
                  try clear c17
                  try clear c17b0
                  try clear c17b1
                  try clear p17
                  try clear q17
                  try clear hx17
                  try clear qi17
                  try clear p18
                  try clear q18
                  try clear hx18
                  try clear qi18
                  try clear c27
                  try clear c36
                  try clear q36
                  try clear hcz28_0
                  try clear hcz28_1
                  try clear hcz28_2
                  try clear hcz28_3
                  try clear hcz30_0
                  try clear hcz30_1
                  try clear hcz30_2
                  try clear hcz30_3
                  try clear hcz32_0
                  try clear hcz32_1
                  try clear hcz32_2
                  try clear hcz32_3
                  try clear hcz34_0
                  try clear hcz34_1
                  try clear hcz34_2
                  try clear hcz34_3
                  try clear hcz7_0
                  try clear hcz7_1
                  try clear hcz7_2
                  try clear hcz7_3
                  try clear hfz28_0
                  try clear hfz28_1
                  try clear hfz28_2
                  try clear hfz28_3
                  try clear hfz30_0
                  try clear hfz30_1
                  try clear hfz30_2
                  try clear hfz30_3
                  try clear hfz32_0
                  try clear hfz32_1
                  try clear hfz32_2
                  try clear hfz32_3
                  try clear hfz34_0
                  try clear hfz34_1
                  try clear hfz34_2
                  try clear hfz34_3
                  try clear hfz7_0
                  try clear hfz7_1
                  try clear hfz7_2
                  try clear hfz7_3
                  try clear hx175_0
                  try clear hx183_0
                  try clear hx186_0
                  try clear hx189_0
                  try clear p175
                  try clear p183
                  try clear p186
                  try clear p189
                  try clear q175
                  try clear q183
                  try clear q186
                  try clear q189
                  try clear q36
                  clear HO174
                  obtain ⟨x53_1, x183003_1, u183003, rfl, HA, HK1, HO174, HO_183003, BK171, BK182, HB⟩ := hrel
                  cases gk with
                  | zero => exact absurd HA.out (by simp [impl_ParseMatrix.l0])
                  | succ k1 =>
                    have H := HA.out
                    clear HA
                    simp only [impl_ParseMatrix.l0] at H
                    by_cases c37 : x53_1 < (y192.length : Int)
                    · rw [if_pos c37] at H
                      have c37b0 : decide (x53_1 < (y192.length : Int)) = true := decide_eq_true c37
                      clear c37
                      by_cases c38 : 0 ≤ x53_1
                      · rw [if_pos c38] at H
                        have c38b0 : decide (0 ≤ x53_1) = true := decide_eq_true c38
                        clear c38
                        by_cases c39 : x53_1 < (y192.length : Int)
                        · rw [if_pos c39] at H
                          have c39b0 : decide (x53_1 < (y192.length : Int)) = true := decide_eq_true c39
                          clear c39
                          have H' := Aside0.mk H
                          clear H
                          have p196 : 0 ≤ (x53_1 : Int) := of_decide_eq_true sqA
                          have q196 : x53_1 < (y192.length : Int) := of_decide_eq_true sqA
                          have hz0 := Kd.C_drop (m := (2 : Int).toNat) (c := co20) (Kd.R_reads' HO174.out).2.2 (by have := KL36.out; omega) (Kd.R_reads' HO174.out).2.1
                          rw [show (t172).drop (2 : Int).toNat = y192 from Ny192.out.symm] at hz0
                          have hz1 : Kd.C Kd.string _ A36 y192.length y192 := (by rw [KA36.out]; exact hz0)
                          clear hz0
                          obtain ⟨ad196, e196, hx196_0⟩ := Kd.at_string hz1 x53_1 p196 q196
                          clear hz1
                          cases e196
                          replace p196 := eq_true p196
                          replace q196 := eq_true q196
                          go_wp2
                          go_loopg [9] k1 (fun kq v9 w' => ∃ (x9_2 : Int) (x183003_2 : List Int) (u183003 : Value), v9 = .int .i64 x9_2 ∧ Aside0 (impl_ParseMatrix.l1 kq a0 (rdOf ByteArray.empty y192 x53_1) x9_2 y192 (y192.length : Int) x53_1 t184 t187 t190 x183003_2 = some (r1, r2, r3, r4, r5)) ∧ Aside0 (kq ≤ k1) ∧ Aside0 (Kd.R Kd.string 9 w' w.heap.size (fun _ => True) (.slice (some ad175) t172.length co20) t172) ∧ Aside0 (Kd.R (Kd.int .i64) 3 w' w.heap.size (fun _ => True) u183003 x183003_2) ∧ Aside0 (w'.heap[gb171]? = some (.cells #[.int .i64 0, .int .i64 0, .int .i64 0, (.slice none 0 0)] 24 (0, 0))) ∧ Aside0 (w'.heap[gb182]? = some (.cells #[.int .i64 t184, .int .i64 t187, .int .i64 t190, u183003] 24 (0, 0))) ∧ Aside0 (Below w.heap.size w w'))
                          case atStart => exact ⟨(0), (x183003_1), (u183003), (sqD), H', ⟨Nat.le_refl _⟩, ⟨sqR HO174.out⟩, ⟨sqR HO_183003.out⟩, ⟨sqK BK171.out⟩, ⟨sqK BK182.out⟩, ⟨sqB⟩⟩
                          case round =>
                            clear H'
                            try clear c1
                            try clear p1
                            try clear q1
                            try clear hx1
                            try clear qi1
                            try clear c2
                            try clear p2
                            try clear c3
                            try clear c3b0
                            try clear c3b1
                            try clear q3
                            try clear c5
                            try clear c8
                            try clear c8b0
                            try clear c8b1
                            try clear c10
                            try clear c10b0
                            try clear c10b1
                            try clear c11
                            try clear c11b0
                            try clear c11b1
                            try clear c12
                            try clear c13
                            try clear c13b0
                            try clear c13b1
                            try clear c15
                            try clear c15b0
                            try clear c15b1
                            try clear c17
                            try clear c17b0
                            try clear c17b1
                            try clear p17
                            try clear q17
                            try clear hx17
                            try clear qi17
                            try clear p18
                            try clear q18
                            try clear hx18
                            try clear qi18
                            try clear p19
                            try clear q19
                            try clear hx19
                            try clear c27
                            try clear c36
                            try clear q36
                            try clear c37
                            try clear c37b0
                            try clear c38
                            try clear c38b0
                            try clear c39
                            try clear c39b0
                            try clear hcz28_0
                            try clear hcz28_1
                            try clear hcz28_2
                            try clear hcz28_3
                            try clear hcz30_0
                            try clear hcz30_1
                            try clear hcz30_2
                            try clear hcz30_3
                            try clear hcz32_0
                            try clear hcz32_1
                            try clear hcz32_2
                            try clear hcz32_3
                            try clear hcz34_0
                            try clear hcz34_1
                            try clear hcz34_2
                            try clear hcz34_3
                            try clear hcz7_0
                            try clear hcz7_1
                            try clear hcz7_2
                            try clear hcz7_3
                            try clear hfz28_0
                            try clear hfz28_1
                            try clear hfz28_2
                            try clear hfz28_3
                            try clear hfz30_0
                            try clear hfz30_1
                            try clear hfz30_2
                            try clear hfz30_3
                            try clear hfz32_0
                            try clear hfz32_1
                            try clear hfz32_2
                            try clear hfz32_3
                            try clear hfz34_0
                            try clear hfz34_1
                            try clear hfz34_2
                            try clear hfz34_3
                            try clear hfz7_0
                            try clear hfz7_1
                            try clear hfz7_2
                            try clear hfz7_3
                            try clear hx175_0
                            try clear hx183_0
                            try clear hx186_0
                            try clear hx189_0
                            try clear hx196_0
                            try clear p1
                            try clear p17
                            try clear p175
                            try clear p18
                            try clear p183
                            try clear p186
                            try clear p189
                            try clear p196
                            try clear p2
                            try clear q1
                            try clear q17
                            try clear q175
                            try clear q18
                            try clear q183
                            try clear q186
                            try clear q189
                            try clear q196
                            try clear q3
                            try clear q36
                            clear HO174
                            obtain ⟨x9_2, x183003_2, u183003, rfl, HA, HK2, HO174, HO_183003, BK171, BK182, HB⟩ := hrel
                            cases gk with
                            | zero => exact absurd HA.out (by simp [impl_ParseMatrix.l1])
                            | succ k2 =>
                              have H := HA.out
                              clear HA
                              simp only [impl_ParseMatrix.l1] at H
                              by_cases c40 : x9_2 < ((rdOf ByteArray.empty y192 x53_1).size : Int)
                              · rw [if_pos c40] at H
                                have c40b0 : decide (x9_2 < ((rdOf ByteArray.empty y192 x53_1).size : Int)) = true := decide_eq_true c40
                                clear c40
                                by_cases c41 : 0 ≤ x9_2
                                · rw [if_pos c41] at H
                                  have c41b0 : decide (0 ≤ x9_2) = true := decide_eq_true c41
                                  clear c41
                                  by_cases c43 : x183003_2.length < 17592186044416
                                  · rw [if_pos c43] at H
                                    have LMc43 := Aside0.mk c43
                                    clear c43
                                    obtain ⟨y197, hy197⟩ : ∃ y_ : List Int, y_ = (x183003_2 ++ [wrap64 ((wrap64 (bt (rdOf ByteArray.empty y192 x53_1) x9_2)) - 48)]) := ⟨_, rfl⟩
                                    replace H : (impl_ParseMatrix.l1 k2 a0 (rdOf ByteArray.empty y192 x53_1) (wrap64 (x9_2 + 1)) y192 (y192.length : Int) x53_1 t184 t187 t190 y197) = some (r1, r2, r3, r4, r5) := by first | (rw [hy197]; with_reducible exact H) | (have H2_ := (Option.bind_some _ _).symm.trans H; rw [hy197]; with_reducible exact H2_) | (have H2_ := (Option.bind_some _ _).symm.trans H; with_reducible exact H2_) | with_reducible exact H | (rw [hy197]; exact H) | exact H
                                    have Ny197 := Aside0.mk hy197
                                    clear hy197
                                    have H' := Aside0.mk H
                                    clear H
                                    try go_wp2
                                    have nz_ := Aside0.mk (Kd.R_drew HO174.out)
                                    clear HO174
                                    have HO174 := nz_
                                    clear nz_
                                    have n0_ := Aside0.mk (Kd.R_drew HO_183003.out)
                                    have n1_ := Aside0.mk (blk_drew BK171.out)
                                    have n2_ := Aside0.mk (blk_drew BK182.out)
                                    have n3_ := Aside0.mk (below_drew1 HB.out)
                                    clear HO_183003 BK171 BK182 HB; have HO_183003 := n0_; have BK171 := n1_; have BK182 := n2_; have HB := n3_; clear n0_ n1_ n2_ n3_
                                    have p42 : 0 ≤ (x9_2 : Int) := of_decide_eq_true sqA
                                    have q42 : x9_2 < ((rdOf ByteArray.empty y192 x53_1).size : Int) := of_decide_eq_true sqA
                                    have hx42 := bt_at (rdOf ByteArray.empty y192 x53_1) x9_2
                                    replace p42 := eq_true p42
                                    replace q42 := eq_true q42
                                    refine start_ (n := 11) (S := fun w' => w'.cell? ⟨gb182, 0, none⟩ = some (.int .i64 t184) ∧ w'.cell? ⟨gb182, 1, none⟩ = some (.int .i64 t187) ∧ w'.cell? ⟨gb182, 2, none⟩ = some (.int .i64 t190) ∧ w'.cell? ⟨gb182, 3, none⟩ = some (u183003)) (ds := [10]) #[false, false, false, false, false, false, false, false, false, false, false] (by kernel_rfl) rfl rfl ⟨(blk_cell BK182.out 0).trans rfl, (blk_cell BK182.out 1).trans rfl, (blk_cell BK182.out 2).trans rfl, (blk_cell BK182.out 3).trans rfl⟩ (fun hHeld => ?_); refine with_tabW impl_ParseMatrix.tab17 impl_ParseMatrix.bits17 (fun HT_ HW_ => ?_)
                                    generalize wr.drew = w44 at HO174 HO_183003 BK171 BK182 HB hHeld ⊢
                                    refine pure_ (i := 0) (N := some 63) (v := ?_) (a' := ?_) #[true, false, false, false, false, false, false, false, false, false, false] rfl rfl (any_of HT_.out (by kernel_rfl)) (fun _ _ _ h => h) (Or.inl ⟨by rfl, ?_⟩) ?_ ?_
                                    rotate_left
                                    · intro w'; go_simp; with_reducible rfl
                                    rotate_left
                                    · simp only [Act.put, List.setIfInBounds_toArray, List.set_cons_zero, List.set_cons_succ, i64_w, i32_w]; rfl
                                    refine pure_ (i := 2) (N := some 65) (v := ?_) (a' := ?_) #[true, false, true, false, false, false, false, false, false, false, false] rfl rfl (any_of HT_.out (by kernel_rfl)) (fun _ _ _ h => h) (Or.inl ⟨by rfl, ?_⟩) ?_ ?_
                                    rotate_left
                                    · intro w'; go_simp; with_reducible rfl
                                    rotate_left
                                    · simp only [Act.put, List.setIfInBounds_toArray, List.set_cons_zero, List.set_cons_succ, i64_w, i32_w]; rfl
                                    refine pure_ (i := 3) (N := some 66) (v := ?_) (a' := ?_) #[true, false, true, true, false, false, false, false, false, false, false] rfl rfl (any_of HT_.out (by kernel_rfl)) (fun _ _ _ h => h) (Or.inl ⟨by rfl, ?_⟩) ?_ ?_
                                    rotate_left
                                    · intro w'; go_simp; with_reducible rfl
                                    rotate_left
                                    · simp only [Act.put, List.setIfInBounds_toArray, List.set_cons_zero, List.set_cons_succ, i64_w, i32_w]; rfl
                                    refine take_ (i := 1) (N := some 64) (v := ?_) (a' := ?_) #[true, true, true, true, false, false, false, false, false, false, false] rfl rfl (take_ofW HT_.out HW_.out (by kernel_rfl)) (fun _ _ _ h => h) (Or.inl ⟨by rfl, ?_⟩) hHeld ?_ ?_
                                    rotate_left
                                    · rintro w' ⟨s0, s1, s2, s3⟩; go_simp; with_reducible rfl
                                    rotate_left
                                    · simp only [Act.put, List.setIfInBounds_toArray, List.set_cons_zero, List.set_cons_succ, i64_w, i32_w]; rfl
                                    refine take_ (i := 4) (N := some 67) (v := ?_) (a' := ?_) #[true, true, true, true, true, false, false, false, false, false, false] rfl rfl (take_ofW HT_.out HW_.out (by kernel_rfl)) (fun _ _ _ h => h) (Or.inl ⟨by rfl, ?_⟩) hHeld ?_ ?_
                                    rotate_left
                                    · rintro w' ⟨s0, s1, s2, s3⟩; go_simp; with_reducible rfl
                                    rotate_left
                                    · simp only [Act.put, List.setIfInBounds_toArray, List.set_cons_zero, List.set_cons_succ, i64_w, i32_w]; rfl
                                    refine pure_ (i := 5) (N := some 68) (v := ?_) (a' := ?_) #[true, true, true, true, true, true, false, false, false, false, false] rfl rfl (any_of HT_.out (by kernel_rfl)) (fun _ _ _ h => h) (Or.inl ⟨by rfl, ?_⟩) ?_ ?_
                                    rotate_left
                                    · intro w'; go_simp; with_reducible rfl
                                    rotate_left
                                    · simp only [Act.put, List.setIfInBounds_toArray, List.set_cons_zero, List.set_cons_succ, i64_w, i32_w]; rfl
                                    refine pure_ (i := 6) (N := some 69) (v := ?_) (a' := ?_) #[true, true, true, true, true, true, true, false, false, false, false] rfl rfl (any_of HT_.out (by kernel_rfl)) (fun _ _ _ h => h) (Or.inl ⟨by rfl, ?_⟩) ?_ ?_
                                    rotate_left
                                    · intro w'; go_simp; with_reducible rfl
                                    rotate_left
                                    · simp only [Act.put, List.setIfInBounds_toArray, List.set_cons_zero, List.set_cons_succ, i64_w, i32_w]; rfl
                                    refine one_ (i := 7) (N := some 70) #[true, true, true, true, true, true, true, true, false, false, false] rfl rfl (one_of HT_.out (by kernel_rfl)) (by decide) (fun K hK => ?_)
                                    refine value_ (w1 := ?_) (v := ?_) (by rfl) rfl ?_ ?_
                                    rotate_left 2
                                    · go_simp
                                      constructor
                                      · rfl
                                      · rfl
                                    refine hK.out _ _ ⟨(blk_cell (blk_alloc BK182.out _) 0).trans rfl, (blk_cell (blk_alloc BK182.out _) 1).trans rfl, (blk_cell (blk_alloc BK182.out _) 2).trans rfl, (blk_cell (blk_alloc BK182.out _) 3).trans rfl⟩ (fun hHeld => ?_)
                                    clear hK K
                                    refine norm_ (a' := ?_) ?_ ?_
                                    rotate_left
                                    · show Act.put _ (some 70) _ = _; simp only [Act.put, List.setIfInBounds_toArray, List.set_cons_zero, List.set_cons_succ, i64_w, i32_w]; rfl
                                    refine one_ (i := 8) (N := some 71) #[true, true, true, true, true, true, true, true, true, false, false] rfl rfl (one_of HT_.out (by kernel_rfl)) (by decide) (fun K hK => ?_)
                                    refine Kd.R_append_step (Kd.int .i64) (w0 := w) w.heap.size (by rfl) (.tmp 64) (.tmp 70) 22 3 (.int .i64 0) 8 rfl Tryd.underlying22 info3 rfl (by decide) (by omega) u183003 x183003_2 (wrap64 ((wrap64 (bt (rdOf ByteArray.empty y192 x53_1) x9_2)) - 48)) [.int .i64 (wrap64 ((wrap64 (bt (rdOf ByteArray.empty y192 x53_1) x9_2)) - 48))] (fun _ => True) (fun _ => False) rfl rfl ?aP (fun _ hk => hk.elim) ?aF ?aO ?aB ?aS ?aL ?_
                                    (case aP => exact rfl)
                                    (case aB => exact sqB)
                                    (case aF => exact (fun _ _ => trivial))
                                    (case aO => exact (sqR HO_183003.out))
                                    (case aS => exact (below_size sqB))
                                    (case aL => have := LMc43.out; omega)
                                    intro v198 w45 ho hb hg hat
                                    rw [← Ny197.out] at ho
                                    have nz_ := Aside0.mk (Kd.R_over' (sqR HO174.out) (Kd.R_typed (sqR HO_183003.out)) (by decide) hg)
                                    clear HO174
                                    have HO174 := nz_
                                    clear nz_
                                    have n0_ := Aside0.mk (blk_grown (g := gb171) (o := .cells #[.int .i64 0, .int .i64 0, .int .i64 0, .slice none 0 0] 24 (0, 0)) (sqK BK171.out) hg (Kd.R_ne HO_183003.out BK171.out (by decide)))
                                    have n1_ := Aside0.mk (blk_grown (g := gb182) (o := .cells #[.int .i64 t184, .int .i64 t187, .int .i64 t190, u183003] 24 (0, 0)) (sqK BK182.out) hg (Kd.R_ne HO_183003.out BK182.out (by decide)))
                                    have n2_ := Aside0.mk (hb)
                                    have n3_ := Aside0.mk (ho)
                                    clear BK171 BK182 HB HO_183003; have BK171 := n0_; have BK182 := n1_; have HB := n2_; have HO199 := n3_; clear n0_ n1_ n2_ n3_ ho hb hg hat
                                    obtain ⟨Ao46, co46, eo46⟩ := Kd.R_slice HO199.out
                                    (first | subst eo46 | (injection eo46 with f1_ f2_ f3_; have f4_ := f1_.symm; have f5_ := f3_.symm; clear f1_ f2_ f3_; subst f4_; subst f5_))
                                    refine hK.out _ _ ⟨(blk_cell BK182.out 0).trans rfl, (blk_cell BK182.out 1).trans rfl, (blk_cell BK182.out 2).trans rfl, (blk_cell BK182.out 3).trans rfl⟩ (fun hHeld => ?_)
                                    clear hK K
                                    refine norm_ (a' := ?_) ?_ ?_
                                    rotate_left
                                    · show Act.put _ (some 71) _ = _; simp only [Act.put, List.setIfInBounds_toArray, List.set_cons_zero, List.set_cons_succ, i64_w, i32_w]; rfl
                                    refine pure_ (i := 9) (N := some 72) (v := ?_) (a' := ?_) #[true, true, true, true, true, true, true, true, true, true, false] rfl rfl (any_of HT_.out (by kernel_rfl)) (fun _ _ _ h => h) (Or.inl ⟨by rfl, ?_⟩) ?_ ?_
                                    rotate_left
                                    · intro w'; go_simp; with_reducible rfl
                                    rotate_left
                                    · simp only [Act.put, List.setIfInBounds_toArray, List.set_cons_zero, List.set_cons_succ, i64_w, i32_w]; rfl
                                    refine last_ (i := 10) (N := none) #[true, true, true, true, true, true, true, true, true, true, true] rfl rfl (one_of HT_.out (by kernel_rfl)) (by decide) (fun K hK => ?_)
                                    have hs47 : w45.cell? ⟨gb182, 3, none⟩ = some (u183003) := (blk_cell BK182.out 3).trans rfl
                                    have hfs47 := blk_frozen BK182.out 3
                                    have hns47_0 := NB171_182.out
                                    have hms47_0 := NB182_171.out
                                    refine skip_ (w1 := ?_) (by rfl) rfl ?_ ?_
                                    rotate_left
                                    · go_simp
                                      rfl
                                    refine hK.out _ _ ?_
                                    clear hK K
                                    refine done_ (done_of HT_.out (by kernel_rfl)) ?_
                                    try go_wp2
                                    go_roundg k2
                                    case measure => have := HK1.out; have := HK2.out; omega
                                    case rel => exact ⟨(wrap64 (x9_2 + 1)), (y197), (.slice Ao46 y197.length co46), (sqD), H', ⟨by have := HK1.out; have := HK2.out; omega⟩, ⟨by refine sqR ?_; exact Kd.R_mono (Kd.R_far (p := ⟨gb182, 3, none⟩) (Kd.R_types HO174.out BK182.out (by decide)) (fun _ hk => hk.2) (.slice Ao46 y197.length co46)) (fun _ hk => trivial)⟩, ⟨by refine sqR ?_; exact Kd.R_mono (Kd.R_far (p := ⟨gb182, 3, none⟩) (Kd.R_types HO199.out BK182.out (by decide)) (fun _ hk => hk.2) (.slice Ao46 y197.length co46)) (fun _ hk => trivial)⟩, ⟨by refine sqK ?_; refine blk_far ?_ NB171_182.out _; refine sqK ?_; exact BK171.out⟩, ⟨by refine sqK ?_; refine blk_put (cs := #[.int .i64 t184, .int .i64 t187, .int .i64 t190, u183003]) ?_ 3 _ rfl; refine sqK ?_; exact BK182.out⟩, ⟨sqB⟩⟩
                                  · rw [if_neg c43] at H
                                    exact absurd H (by simp)
                                · rw [if_neg c41] at H
                                  exact absurd H (by simp)
                              · rw [if_neg c40] at H
                                have c40b0 : decide (x9_2 < ((rdOf ByteArray.empty y192 x53_1).size : Int)) = false := decide_eq_false c40
                                clear c40
                                have H' := Aside0.mk H
                                clear H
                                go_wp2
                                go_roundg k2
                                case measure => have := HK1.out; have := HK2.out; omega
                                case rel => exact ⟨(wrap64 (x53_1 + 1)), (x183003_2), (u183003), (sqD), H', ⟨by have := HK1.out; have := HK2.out; omega⟩, ⟨sqR HO174.out⟩, ⟨sqR HO_183003.out⟩, ⟨sqK BK171.out⟩, ⟨sqK BK182.out⟩, ⟨sqB⟩⟩
                        · rw [if_neg c39] at H
                          exact absurd H (by simp)
                      · rw [if_neg c38] at H
                        exact absurd H (by simp)
                    · rw [if_neg c37] at H
                      have c37b0 : decide (x53_1 < (y192.length : Int)) = false := decide_eq_false c37
                      clear c37
                      replace H := Option.bind_eq_some_iff.mp H
                      obtain ⟨t200, A480, H⟩ := H
                      replace H : (if t200 = true then ((impl_MatrixText.f k1 t184 t187 t190 x183003_1).bind fun t201 => (if t201.toList = a0.toList then (some (t184, t187, t190, x183003_1, true)) else (some (0, 0, 0, ([] : List Int), false)))) else (some (0, 0, 0, ([] : List Int), false))) = some (r1, r2, r3, r4, r5) := H
                      have A48 := Aside0.mk A480
                      clear A480
                      by_cases c49 : t200 = true
                      · subst c49
                        have H1 : ((impl_MatrixText.f k1 t184 t187 t190 x183003_1).bind fun t201 => (if t201.toList = a0.toList then (some (t184, t187, t190, x183003_1, true)) else (some (0, 0, 0, ([] : List Int), false)))) = some (r1, r2, r3, r4, r5) := by rw [if_pos rfl] at H; exact H
                        clear H
                        have H := H1
                        clear H1
                        replace H := Option.bind_eq_some_iff.mp H
                        obtain ⟨t201, A500, H⟩ := H
                        replace H : (if t201.toList = a0.toList then (some (t184, t187, t190, x183003_1, true)) else (some (0, 0, 0, ([] : List Int), false))) = some (r1, r2, r3, r4, r5) := H
                        have A50 := Aside0.mk A500
                        clear A500
                        by_cases c51 : t201.toList = a0.toList
                        · rw [if_pos c51] at H
                          have c51b0 : (t201.toList == a0.toList) = true := beq_iff_eq.mpr c51
                          have c51b1 : (t201.toList != a0.toList) = false := bne_eq_false_iff_eq.mpr c51
                          clear c51
                          simp only [Option.some.injEq, Prod.mk.injEq] at H
                          obtain ⟨rfl, rfl, rfl, rfl, rfl⟩ := H
                          have hnb52 := NB182_171.out
                          have hnc52 := NB171_182.out
                          have hcz53_0 : wr.cell? ⟨gb182, 0, none⟩ = some (.int .i64 t184) := (blk_cell BK182.out 0).trans rfl
                          have hcz53_1 : wr.cell? ⟨gb182, 1, none⟩ = some (.int .i64 t187) := (blk_cell BK182.out 1).trans rfl
                          have hcz53_2 : wr.cell? ⟨gb182, 2, none⟩ = some (.int .i64 t190) := (blk_cell BK182.out 2).trans rfl
                          have hcz53_3 : wr.cell? ⟨gb182, 3, none⟩ = some (u183003) := (blk_cell BK182.out 3).trans rfl
                          have hfz53_0 := blk_frozen BK182.out 0; have hfz53_1 := blk_frozen BK182.out 1; have hfz53_2 := blk_frozen BK182.out 2; have hfz53_3 := blk_frozen BK182.out 3
                          obtain ⟨Ao54, co54, eo54⟩ := Kd.R_slice HO_183003.out
                          subst eo54
                          go_wp2_with (first | ((with_reducible refine gate_callee (f := 14) rfl ?_); refine goesL_ (some 75) rfl rfl Tryd.func14 (by kernel_rfl) rfl #[.agg #[.int .i64 t184, .int .i64 t187, .int .i64 t190, .slice Ao54 x183003_1.length co54]] rfl sqM ?_; (with_reducible refine (impl_IsMatrix.calls k1 t184 t187 t190 _ _ x183003_1 true _ ?side1 ?side2 A48.out).mono ?_); (case side1 => exact sqC (Kd.R_reads' HO_183003.out).2.2); (case side2 => exact (Kd.R_reads' HO_183003.out).2.1); rintro e w55 ⟨rfl, hb⟩; refine ⟨_, rfl, ?_⟩; have n0_ := Aside0.mk (Kd.R_below (sqR HO_183003.out) hb); have n1_ := Aside0.mk (blk_below (g := gb171) (o := .cells #[.int .i64 0, .int .i64 0, .int .i64 0, .slice none 0 0] 24 (0, 0)) (sqK BK171.out) hb); have n2_ := Aside0.mk (blk_below (g := gb182) (o := .cells #[.int .i64 t184, .int .i64 t187, .int .i64 t190, .slice Ao54 x183003_1.length co54] 24 (0, 0)) (sqK BK182.out) hb); have n3_ := Aside0.mk (below_step sqB hb); clear HO_183003; clear BK171; clear BK182; clear HB; have HO_183003 := n0_; have BK171 := n1_; have BK182 := n2_; have HB := n3_; clear n0_ n1_ n2_ n3_; (try clear hb); (try clear hb2); (try clear hk); (try clear hi); have hcz56_0 : w55.cell? ⟨gb182, 0, none⟩ = some (.int .i64 t184) := (blk_cell BK182.out 0).trans rfl; have hcz56_1 : w55.cell? ⟨gb182, 1, none⟩ = some (.int .i64 t187) := (blk_cell BK182.out 1).trans rfl; have hcz56_2 : w55.cell? ⟨gb182, 2, none⟩ = some (.int .i64 t190) := (blk_cell BK182.out 2).trans rfl; have hcz56_3 : w55.cell? ⟨gb182, 3, none⟩ = some (.slice Ao54 x183003_1.length co54) := (blk_cell BK182.out 3).trans rfl; have hfz56_0 := blk_frozen BK182.out 0; have hfz56_1 := blk_frozen BK182.out 1; have hfz56_2 := blk_frozen BK182.out 2; have hfz56_3 := blk_frozen BK182.out 3) | (go_at_call 15; (try simp only [i64_w, i32_w]); (with_reducible refine (impl_MatrixText.calls k1 t184 t187 t190 _ _ x183003_1 t201 _ ?side1 ?side2 A50.out).mono ?_); (case side1 => exact sqC (Kd.R_reads' HO_183003.out).2.2); (case side2 => exact (Kd.R_reads' HO_183003.out).2.1); rintro e w57 ⟨rfl, hb⟩; have n0_ := Aside0.mk (Kd.R_below (sqR HO_183003.out) hb); have n1_ := Aside0.mk (blk_below (g := gb171) (o := .cells #[.int .i64 0, .int .i64 0, .int .i64 0, .slice none 0 0] 24 (0, 0)) (sqK BK171.out) hb); have n2_ := Aside0.mk (blk_below (g := gb182) (o := .cells #[.int .i64 t184, .int .i64 t187, .int .i64 t190, .slice Ao54 x183003_1.length co54] 24 (0, 0)) (sqK BK182.out) hb); have n3_ := Aside0.mk (below_step sqB hb); clear HO_183003; clear BK171; clear BK182; clear HB; have HO_183003 := n0_; have BK171 := n1_; have BK182 := n2_; have HB := n3_; clear n0_ n1_ n2_ n3_; (try clear hb); (try clear hb2); (try clear hk); (try clear hi); have hcz58_0 : w57.cell? ⟨gb182, 0, none⟩ = some (.int .i64 t184) := (blk_cell BK182.out 0).trans rfl; have hcz58_1 : w57.cell? ⟨gb182, 1, none⟩ = some (.int .i64 t187) := (blk_cell BK182.out 1).trans rfl; have hcz58_2 : w57.cell? ⟨gb182, 2, none⟩ = some (.int .i64 t190) := (blk_cell BK182.out 2).trans rfl; have hcz58_3 : w57.cell? ⟨gb182, 3, none⟩ = some (.slice Ao54 x183003_1.length co54) := (blk_cell BK182.out 3).trans rfl; have hfz58_0 := blk_frozen BK182.out 0; have hfz58_1 := blk_frozen BK182.out 1; have hfz58_2 := blk_frozen BK182.out 2; have hfz58_3 := blk_frozen BK182.out 3; have hcz59_0 : w57.cell? ⟨gb171, 0, none⟩ = some (.int .i64 0) := (blk_cell BK171.out 0).trans rfl; have hcz59_1 : w57.cell? ⟨gb171, 1, none⟩ = some (.int .i64 0) := (blk_cell BK171.out 1).trans rfl; have hcz59_2 : w57.cell? ⟨gb171, 2, none⟩ = some (.int .i64 0) := (blk_cell BK171.out 2).trans rfl; have hcz59_3 : w57.cell? ⟨gb171, 3, none⟩ = some (.slice none 0 0) := (blk_cell BK171.out 3).trans rfl; have hfz59_0 := blk_frozen BK171.out 0; have hfz59_1 := blk_frozen BK171.out 1; have hfz59_2 := blk_frozen BK171.out 2; have hfz59_3 := blk_frozen BK171.out 3))
                          refine bodyPost_ret (results_ct rfl _ _ gb171 24 #[.int .i64 t184, .int .i64 t187, .int .i64 t190, .slice Ao54 x183003_1.length co54] (0, 0) _ rfl (by refine sqK ?_; refine blk_put (cs := #[.int .i64 t184, .int .i64 t187, .int .i64 t190, .slice none 0 0]) ?_ 3 _ rfl; refine sqK ?_; refine blk_put (cs := #[.int .i64 t184, .int .i64 t187, .int .i64 0, .slice none 0 0]) ?_ 2 _ rfl; refine sqK ?_; refine blk_put (cs := #[.int .i64 t184, .int .i64 0, .int .i64 0, .slice none 0 0]) ?_ 1 _ rfl; refine sqK ?_; refine blk_put (cs := #[.int .i64 0, .int .i64 0, .int .i64 0, .slice none 0 0]) ?_ 0 _ rfl; refine sqK ?_; exact BK171.out) Tryd.underlying24 rfl (by kernel_rfl)) rfl ?_
                          exact ⟨_, sqE, by refine sqR ?_; exact Kd.R_mono (Kd.R_far (p := ⟨gb171, 3, none⟩) (Kd.R_far (p := ⟨gb171, 2, none⟩) (Kd.R_far (p := ⟨gb171, 1, none⟩) (Kd.R_far (p := ⟨gb171, 0, none⟩) (Kd.R_types HO_183003.out BK171.out (by decide)) (fun _ hk => hk.2) (.int .i64 t184)) (fun _ hk => hk.2) (.int .i64 t187)) (fun _ hk => hk.2) (.int .i64 t190)) (fun _ hk => hk.2) (.slice Ao54 x183003_1.length co54)) (fun _ hk => trivial), sqB⟩
                        · rw [if_neg c51] at H
                          have c51b0 : (t201.toList == a0.toList) = false := beq_eq_false_iff_ne.mpr c51
                          have c51b1 : (t201.toList != a0.toList) = true := bne_iff_ne.mpr c51
                          simp only [Option.some.injEq, Prod.mk.injEq] at H
                          obtain ⟨rfl, rfl, rfl, rfl, rfl⟩ := H
                          have hnb60 := NB182_171.out
                          have hnc60 := NB171_182.out
                          have hcz61_0 : wr.cell? ⟨gb182, 0, none⟩ = some (.int .i64 t184) := (blk_cell BK182.out 0).trans rfl
                          have hcz61_1 : wr.cell? ⟨gb182, 1, none⟩ = some (.int .i64 t187) := (blk_cell BK182.out 1).trans rfl
                          have hcz61_2 : wr.cell? ⟨gb182, 2, none⟩ = some (.int .i64 t190) := (blk_cell BK182.out 2).trans rfl
                          have hcz61_3 : wr.cell? ⟨gb182, 3, none⟩ = some (u183003) := (blk_cell BK182.out 3).trans rfl
                          have hfz61_0 := blk_frozen BK182.out 0; have hfz61_1 := blk_frozen BK182.out 1; have hfz61_2 := blk_frozen BK182.out 2; have hfz61_3 := blk_frozen BK182.out 3
                          obtain ⟨Ao62, co62, eo62⟩ := Kd.R_slice HO_183003.out
                          subst eo62
                          go_wp2_with (first | ((with_reducible refine gate_callee (f := 14) rfl ?_); refine goesL_ (some 75) rfl rfl Tryd.func14 (by kernel_rfl) rfl #[.agg #[.int .i64 t184, .int .i64 t187, .int .i64 t190, .slice Ao62 x183003_1.length co62]] rfl sqM ?_; (with_reducible refine (impl_IsMatrix.calls k1 t184 t187 t190 _ _ x183003_1 true _ ?side1 ?side2 A48.out).mono ?_); (case side1 => exact sqC (Kd.R_reads' HO_183003.out).2.2); (case side2 => exact (Kd.R_reads' HO_183003.out).2.1); rintro e w63 ⟨rfl, hb⟩; refine ⟨_, rfl, ?_⟩; have n0_ := Aside0.mk (Kd.R_below (sqR HO_183003.out) hb); have n1_ := Aside0.mk (blk_below (g := gb171) (o := .cells #[.int .i64 0, .int .i64 0, .int .i64 0, .slice none 0 0] 24 (0, 0)) (sqK BK171.out) hb); have n2_ := Aside0.mk (blk_below (g := gb182) (o := .cells #[.int .i64 t184, .int .i64 t187, .int .i64 t190, .slice Ao62 x183003_1.length co62] 24 (0, 0)) (sqK BK182.out) hb); have n3_ := Aside0.mk (below_step sqB hb); clear HO_183003; clear BK171; clear BK182; clear HB; have HO_183003 := n0_; have BK171 := n1_; have BK182 := n2_; have HB := n3_; clear n0_ n1_ n2_ n3_; (try clear hb); (try clear hb2); (try clear hk); (try clear hi); have hcz64_0 : w63.cell? ⟨gb182, 0, none⟩ = some (.int .i64 t184) := (blk_cell BK182.out 0).trans rfl; have hcz64_1 : w63.cell? ⟨gb182, 1, none⟩ = some (.int .i64 t187) := (blk_cell BK182.out 1).trans rfl; have hcz64_2 : w63.cell? ⟨gb182, 2, none⟩ = some (.int .i64 t190) := (blk_cell BK182.out 2).trans rfl; have hcz64_3 : w63.cell? ⟨gb182, 3, none⟩ = some (.slice Ao62 x183003_1.length co62) := (blk_cell BK182.out 3).trans rfl; have hfz64_0 := blk_frozen BK182.out 0; have hfz64_1 := blk_frozen BK182.out 1; have hfz64_2 := blk_frozen BK182.out 2; have hfz64_3 := blk_frozen BK182.out 3) | (go_at_call 15; (try simp only [i64_w, i32_w]); (with_reducible refine (impl_MatrixText.calls k1 t184 t187 t190 _ _ x183003_1 t201 _ ?side1 ?side2 A50.out).mono ?_); (case side1 => exact sqC (Kd.R_reads' HO_183003.out).2.2); (case side2 => exact (Kd.R_reads' HO_183003.out).2.1); rintro e w65 ⟨rfl, hb⟩; have n0_ := Aside0.mk (Kd.R_below (sqR HO_183003.out) hb); have n1_ := Aside0.mk (blk_below (g := gb171) (o := .cells #[.int .i64 0, .int .i64 0, .int .i64 0, .slice none 0 0] 24 (0, 0)) (sqK BK171.out) hb); have n2_ := Aside0.mk (blk_below (g := gb182) (o := .cells #[.int .i64 t184, .int .i64 t187, .int .i64 t190, .slice Ao62 x183003_1.length co62] 24 (0, 0)) (sqK BK182.out) hb); have n3_ := Aside0.mk (below_step sqB hb); clear HO_183003; clear BK171; clear BK182; clear HB; have HO_183003 := n0_; have BK171 := n1_; have BK182 := n2_; have HB := n3_; clear n0_ n1_ n2_ n3_; (try clear hb); (try clear hb2); (try clear hk); (try clear hi); have hcz66_0 : w65.cell? ⟨gb171, 0, none⟩ = some (.int .i64 0) := (blk_cell BK171.out 0).trans rfl; have hcz66_1 : w65.cell? ⟨gb171, 1, none⟩ = some (.int .i64 0) := (blk_cell BK171.out 1).trans rfl; have hcz66_2 : w65.cell? ⟨gb171, 2, none⟩ = some (.int .i64 0) := (blk_cell BK171.out 2).trans rfl; have hcz66_3 : w65.cell? ⟨gb171, 3, none⟩ = some (.slice none 0 0) := (blk_cell BK171.out 3).trans rfl; have hfz66_0 := blk_frozen BK171.out 0; have hfz66_1 := blk_frozen BK171.out 1; have hfz66_2 := blk_frozen BK171.out 2; have hfz66_3 := blk_frozen BK171.out 3))
                          refine bodyPost_ret (results_ct rfl _ _ gb171 24 #[.int .i64 0, .int .i64 0, .int .i64 0, .slice none 0 0] (0, 0) _ rfl (by refine sqK ?_; refine blk_put (cs := #[.int .i64 0, .int .i64 0, .int .i64 0, .slice none 0 0]) ?_ 3 _ rfl; refine sqK ?_; refine blk_put (cs := #[.int .i64 0, .int .i64 0, .int .i64 0, .slice none 0 0]) ?_ 2 _ rfl; refine sqK ?_; refine blk_put (cs := #[.int .i64 0, .int .i64 0, .int .i64 0, .slice none 0 0]) ?_ 1 _ rfl; refine sqK ?_; refine blk_put (cs := #[.int .i64 0, .int .i64 0, .int .i64 0, .slice none 0 0]) ?_ 0 _ rfl; refine sqK ?_; exact BK171.out) Tryd.underlying24 rfl (by kernel_rfl)) rfl ?_
                          exact ⟨_, sqE, sqN, sqB⟩
                      · replace c49 := Bool.eq_false_iff.mpr c49
                        subst c49
                        have H1 : (some (0, 0, 0, ([] : List Int), false)) = some (r1, r2, r3, r4, r5) := by rw [if_neg (show ¬ (false = true) by decide)] at H; exact H
                        clear H
                        have H := H1
                        clear H1
                        simp only [Option.some.injEq, Prod.mk.injEq] at H
                        obtain ⟨rfl, rfl, rfl, rfl, rfl⟩ := H
                        have hnb67 := NB182_171.out
                        have hnc67 := NB171_182.out
                        have hcz68_0 : wr.cell? ⟨gb182, 0, none⟩ = some (.int .i64 t184) := (blk_cell BK182.out 0).trans rfl
                        have hcz68_1 : wr.cell? ⟨gb182, 1, none⟩ = some (.int .i64 t187) := (blk_cell BK182.out 1).trans rfl
                        have hcz68_2 : wr.cell? ⟨gb182, 2, none⟩ = some (.int .i64 t190) := (blk_cell BK182.out 2).trans rfl
                        have hcz68_3 : wr.cell? ⟨gb182, 3, none⟩ = some (u183003) := (blk_cell BK182.out 3).trans rfl
                        have hfz68_0 := blk_frozen BK182.out 0; have hfz68_1 := blk_frozen BK182.out 1; have hfz68_2 := blk_frozen BK182.out 2; have hfz68_3 := blk_frozen BK182.out 3
                        obtain ⟨Ao69, co69, eo69⟩ := Kd.R_slice HO_183003.out
                        subst eo69
                        go_wp2_with (first | ((with_reducible refine gate_callee (f := 14) rfl ?_); refine goesL_ (some 75) rfl rfl Tryd.func14 (by kernel_rfl) rfl #[.agg #[.int .i64 t184, .int .i64 t187, .int .i64 t190, .slice Ao69 x183003_1.length co69]] rfl sqM ?_; (with_reducible refine (impl_IsMatrix.calls k1 t184 t187 t190 _ _ x183003_1 false _ ?side1 ?side2 A48.out).mono ?_); (case side1 => exact sqC (Kd.R_reads' HO_183003.out).2.2); (case side2 => exact (Kd.R_reads' HO_183003.out).2.1); rintro e w70 ⟨rfl, hb⟩; refine ⟨_, rfl, ?_⟩; have n0_ := Aside0.mk (Kd.R_below (sqR HO_183003.out) hb); have n1_ := Aside0.mk (blk_below (g := gb171) (o := .cells #[.int .i64 0, .int .i64 0, .int .i64 0, .slice none 0 0] 24 (0, 0)) (sqK BK171.out) hb); have n2_ := Aside0.mk (blk_below (g := gb182) (o := .cells #[.int .i64 t184, .int .i64 t187, .int .i64 t190, .slice Ao69 x183003_1.length co69] 24 (0, 0)) (sqK BK182.out) hb); have n3_ := Aside0.mk (below_step sqB hb); clear HO_183003; clear BK171; clear BK182; clear HB; have HO_183003 := n0_; have BK171 := n1_; have BK182 := n2_; have HB := n3_; clear n0_ n1_ n2_ n3_; (try clear hb); (try clear hb2); (try clear hk); (try clear hi); have hcz71_0 : w70.cell? ⟨gb171, 0, none⟩ = some (.int .i64 0) := (blk_cell BK171.out 0).trans rfl; have hcz71_1 : w70.cell? ⟨gb171, 1, none⟩ = some (.int .i64 0) := (blk_cell BK171.out 1).trans rfl; have hcz71_2 : w70.cell? ⟨gb171, 2, none⟩ = some (.int .i64 0) := (blk_cell BK171.out 2).trans rfl; have hcz71_3 : w70.cell? ⟨gb171, 3, none⟩ = some (.slice none 0 0) := (blk_cell BK171.out 3).trans rfl; have hfz71_0 := blk_frozen BK171.out 0; have hfz71_1 := blk_frozen BK171.out 1; have hfz71_2 := blk_frozen BK171.out 2; have hfz71_3 := blk_frozen BK171.out 3))
                        refine bodyPost_ret (results_ct rfl _ _ gb171 24 #[.int .i64 0, .int .i64 0, .int .i64 0, .slice none 0 0] (0, 0) _ rfl (by refine sqK ?_; refine blk_put (cs := #[.int .i64 0, .int .i64 0, .int .i64 0, .slice none 0 0]) ?_ 3 _ rfl; refine sqK ?_; refine blk_put (cs := #[.int .i64 0, .int .i64 0, .int .i64 0, .slice none 0 0]) ?_ 2 _ rfl; refine sqK ?_; refine blk_put (cs := #[.int .i64 0, .int .i64 0, .int .i64 0, .slice none 0 0]) ?_ 1 _ rfl; refine sqK ?_; refine blk_put (cs := #[.int .i64 0, .int .i64 0, .int .i64 0, .slice none 0 0]) ?_ 0 _ rfl; refine sqK ?_; exact BK171.out) Tryd.underlying24 rfl (by kernel_rfl)) rfl ?_
                        exact ⟨_, sqE, sqN, sqB⟩
              · rw [if_neg c17] at H
                exact absurd H (by simp)
            · rw [if_neg c15] at H
              exact absurd H (by simp)
          · rw [if_neg c13] at H
            exact absurd H (by simp)
        · rw [if_neg c11] at H
          exact absurd H (by simp)
      · rw [if_neg c10] at H
        have c10b0 : ((t176.length : Int) == 2) = false := beq_eq_false_iff_ne.mpr c10
        have c10b1 : ((t176.length : Int) != 2) = true := bne_iff_ne.mpr c10
        simp only [Option.some.injEq, Prod.mk.injEq] at H
        obtain ⟨rfl, rfl, rfl, rfl, rfl⟩ := H
        go_enter Tryd.func5, Tryd.ntmps5
        go_wp2_with (first | ((with_reducible refine gate_dst (N := 2) rfl ?_); refine box_event ?hg (N := 2) ?hd (cs := #[.int .i64 0, .int .i64 0, .int .i64 0, .slice none 0 0]) (t := 24) ?hr ?_; (case hd => rfl); (case hg => rfl); (case hr => exact sqG); intro gb171 hg w72 hbox hb; have n0_ := Aside0.mk (below_step sqB hb); have n1_ := Aside0.mk (hbox); have n2_ := Aside0.mk ((sqS hg : w.heap.size ≤ gb171)); have n3_ := Aside0.mk ((sqS hg : w.heap.size ≤ gb171)); clear HB; have HB := n0_; have BK171 := n1_; have GW171 := n2_; have GE171 := n3_; clear n0_ n1_ n2_ n3_; clear hb hbox hg) | ((with_reducible refine gate_callee (f := 12) rfl ?_); refine goesL_ (some 11) rfl rfl Tryd.func12 (by kernel_rfl) rfl #[.string a0, .int .u8 32] rfl sqM ?_; (with_reducible refine (impl_SplitByte.calls a0 32 t172 _ A2.out).mono ?_); rintro e w73 ⟨v173, rfl, ho0, hb⟩; refine ⟨_, rfl, ?_⟩; have n0_ := Aside0.mk (Kd.R_lower ho0 (below_size sqB)); have n1_ := Aside0.mk (blk_below (g := gb171) (o := .cells #[.int .i64 0, .int .i64 0, .int .i64 0, .slice none 0 0] 24 (0, 0)) (sqK BK171.out) hb); have n2_ := Aside0.mk (below_step sqB hb); clear BK171; clear HB; have HO174 := n0_; have BK171 := n1_; have HB := n2_; clear n0_ n1_ n2_; (try clear hb); (try clear hb2); (try clear hk); (try clear hi); (try clear ho0); obtain ⟨Ao74, co74, eo74⟩ := Kd.R_slice HO174.out; subst eo74; have p175 : 0 ≤ (1 : Int) := (by omega); have q175 : 1 < (t172.length : Int) := of_decide_eq_true sqA; obtain ⟨ad175, e175, hx175_0⟩ := Kd.at_string (Kd.R_reads' HO174.out).2.2 1 p175 q175; cases e175; (try simp only [show (1 : Int).toNat = 1 from rfl, Nat.reduceMul, Nat.reduceEqDiff, Go.Addr.add, ↓reduceIte] at hx175_0); have qi175 : (1 < t172.length) = True := eq_true (by omega); (try rw [show ((1 : Int)).toNat = 1 from rfl] at hx175_0); replace p175 := eq_true p175; replace q175 := eq_true q175) | ((with_reducible refine gate_callee (f := 12) rfl ?_); refine goesL_ (some 19) rfl rfl Tryd.func12 (by kernel_rfl) rfl #[.string (rdOf ByteArray.empty t172 1), .int .u8 120] rfl sqM ?_; (with_reducible refine (impl_SplitByte.calls (rdOf ByteArray.empty t172 1) 120 t176 _ A9.out).mono ?_); rintro e w75 ⟨v177, rfl, ho0, hb⟩; refine ⟨_, rfl, ?_⟩; have n0_ := Aside0.mk (Kd.R_elder' (sqR HO174.out) (Kd.R_base ho0) hb); have n1_ := Aside0.mk (Kd.R_lower (Kd.R_new' ho0 (Kd.R_lt (sqR HO174.out))) (below_size sqB)); have n2_ := Aside0.mk (blk_below (g := gb171) (o := .cells #[.int .i64 0, .int .i64 0, .int .i64 0, .slice none 0 0] 24 (0, 0)) (sqK BK171.out) hb); have n3_ := Aside0.mk (below_step sqB hb); clear HO174; clear BK171; clear HB; have HO174 := n0_; have HO178 := n1_; have BK171 := n2_; have HB := n3_; clear n0_ n1_ n2_ n3_; (try clear hb); (try clear hb2); (try clear hk); (try clear hi); (try clear ho0); obtain ⟨Ao76, co76, eo76⟩ := Kd.R_slice HO178.out; subst eo76; have hcz77_0 : w75.cell? ⟨gb171, 0, none⟩ = some (.int .i64 0) := (blk_cell BK171.out 0).trans rfl; have hcz77_1 : w75.cell? ⟨gb171, 1, none⟩ = some (.int .i64 0) := (blk_cell BK171.out 1).trans rfl; have hcz77_2 : w75.cell? ⟨gb171, 2, none⟩ = some (.int .i64 0) := (blk_cell BK171.out 2).trans rfl; have hcz77_3 : w75.cell? ⟨gb171, 3, none⟩ = some (.slice none 0 0) := (blk_cell BK171.out 3).trans rfl; have hfz77_0 := blk_frozen BK171.out 0; have hfz77_1 := blk_frozen BK171.out 1; have hfz77_2 := blk_frozen BK171.out 2; have hfz77_3 := blk_frozen BK171.out 3))
        refine bodyPost_ret (results_ct rfl _ _ gb171 24 #[.int .i64 0, .int .i64 0, .int .i64 0, .slice none 0 0] (0, 0) _ rfl (by refine sqK ?_; refine blk_put (cs := #[.int .i64 0, .int .i64 0, .int .i64 0, .slice none 0 0]) ?_ 3 _ rfl; refine sqK ?_; refine blk_put (cs := #[.int .i64 0, .int .i64 0, .int .i64 0, .slice none 0 0]) ?_ 2 _ rfl; refine sqK ?_; refine blk_put (cs := #[.int .i64 0, .int .i64 0, .int .i64 0, .slice none 0 0]) ?_ 1 _ rfl; refine sqK ?_; refine blk_put (cs := #[.int .i64 0, .int .i64 0, .int .i64 0, .slice none 0 0]) ?_ 0 _ rfl; refine sqK ?_; exact BK171.out) Tryd.underlying24 rfl (by kernel_rfl)) rfl ?_
        exact ⟨_, sqE, sqN, sqB⟩
    · rw [if_neg c8] at H
      exact absurd H (by simp)

mutual
def laws_FnExactParseMatrix.j0 : Nat → ByteArray → Bool → Bool → Int → Int → Int → List Int → Int → Int → Int → List Int → Option (Bool)
  | 0, _, _, _, _, _, _, _, _, _, _, _ => none
  | k + 1, x0, x4, x32, x222000, x222001, x222002, x222003, x230000, x230001, x230002, x230003 => if x32 = true then (none) else ((laws_markMatrix.f k x230000 x230001 x230002 x230003 1).bind fun bt231 => ((laws_heldMatrix.f k x230000 x230001 x230002 bt231.2 1).bind fun t233 => (if t233 < 0 then (none) else (if t233 = bt231.1 then ((impl_ParseMatrix.f k x0).bind fun bt234 => ((laws_eqMatrix.f k bt234.1 bt234.2.1 bt234.2.2.1 bt234.2.2.2.1 x222000 x222001 x222002 x222003).bind fun t242 => (if t242 = true then (laws_FnExactParseMatrix.j1 k bt231.1 (bt234.2.2.2.2 != x4) x230000 x230001 x230002 bt231.2) else (laws_FnExactParseMatrix.j1 k bt231.1 true x230000 x230001 x230002 bt231.2)))) else (none)))))
def laws_FnExactParseMatrix.j1 : Nat → Int → Bool → Int → Int → Int → List Int → Option (Bool)
  | 0, _, _, _, _, _, _ => none
  | k + 1, x7, x57, x230000, x230001, x230002, x230003 => if x57 = true then (none) else ((laws_heldMatrix.f k x230000 x230001 x230002 x230003 1).bind fun t243 => (if t243 < 0 then (none) else (if t243 = x7 then (some true) else (none))))
end
def laws_FnExactParseMatrix.f (k : Nat) (a0 : ByteArray) : Option (Bool) := if (a0.size : Int) > 1048576 then (some true) else ((spec_ParseMatrix.f k a0).bind fun bt214 => ((impl_ParseMatrix.f k a0).bind fun bt222 => ((laws_eqMatrix.f k bt222.1 bt222.2.1 bt222.2.2.1 bt222.2.2.2.1 bt214.1 bt214.2.1 bt214.2.2.1 bt214.2.2.2.1).bind fun t230 => (if t230 = true then (laws_FnExactParseMatrix.j0 k a0 bt214.2.2.2.2 (bt222.2.2.2.2 != bt214.2.2.2.2) bt214.1 bt214.2.1 bt214.2.2.1 bt214.2.2.2.1 bt222.1 bt222.2.1 bt222.2.2.1 bt222.2.2.2.1) else (laws_FnExactParseMatrix.j0 k a0 bt214.2.2.2.2 true bt214.1 bt214.2.1 bt214.2.2.1 bt214.2.2.2.1 bt222.1 bt222.2.1 bt222.2.2.1 bt222.2.2.2.1)))))
set_option maxHeartbeats 8000000 in
set_option maxRecDepth 100000 in
theorem laws_FnExactParseMatrix.calls (k : Nat) (a0 : ByteArray) (r : Bool) (w : World) (h : laws_FnExactParseMatrix.f k a0 = some r) (hv : VarsOk w := by exact VarsOk.step HV.out (by repeat (first | (with_reducible first | exact HB.out | apply below_alloc | apply pw_below_drewN | apply below_drew1 | refine below_set ?_ (Aside0.out (by assumption))) | exact HB.out))) :
    Calls Tryd.prog 3 #[.string a0] w fun e w' => e = .returned (.bool r) ∧ Below w.heap.size w w' := by
  have hu24 := Tryd.underlying24
  have HV := Aside0.mk hv
  clear hv
  have HB := Aside0.mk (Below.refl w.heap.size w)
  have H : (if (a0.size : Int) > 1048576 then (some true) else ((spec_ParseMatrix.f k a0).bind fun bt214 => ((impl_ParseMatrix.f k a0).bind fun bt222 => ((laws_eqMatrix.f k bt222.1 bt222.2.1 bt222.2.2.1 bt222.2.2.2.1 bt214.1 bt214.2.1 bt214.2.2.1 bt214.2.2.2.1).bind fun t230 => (if t230 = true then (laws_FnExactParseMatrix.j0 k a0 bt214.2.2.2.2 (bt222.2.2.2.2 != bt214.2.2.2.2) bt214.1 bt214.2.1 bt214.2.2.1 bt214.2.2.2.1 bt222.1 bt222.2.1 bt222.2.2.1 bt222.2.2.2.1) else (laws_FnExactParseMatrix.j0 k a0 bt214.2.2.2.2 true bt214.1 bt214.2.1 bt214.2.2.1 bt214.2.2.2.1 bt222.1 bt222.2.1 bt222.2.2.1 bt222.2.2.2.1)))))) = some r := h
  clear h
  by_cases c2 : (a0.size : Int) > 1048576
  · rw [if_pos c2] at H
    have c2b0 : decide (1048576 < (a0.size : Int)) = true := decide_eq_true c2
    have c2b1 : decide (1048576 < a0.size) = true := decide_eq_true (by omega)
    clear c2
    obtain rfl := Option.some.inj H
    go_enter Tryd.func3, Tryd.ntmps3
    go_wp2
    go_ret
    exact ⟨sqE, sqB⟩
  · rw [if_neg c2] at H
    have c2b0 : decide (1048576 < (a0.size : Int)) = false := decide_eq_false c2
    have c2b1 : decide (1048576 < a0.size) = false := decide_eq_false (by omega)
    clear c2
    replace H := Option.bind_eq_some_iff.mp H
    obtain ⟨⟨t214, t215, t216, t217, t220⟩, A30, H⟩ := H
    replace H : ((impl_ParseMatrix.f k a0).bind fun bt222 => ((laws_eqMatrix.f k bt222.1 bt222.2.1 bt222.2.2.1 bt222.2.2.2.1 t214 t215 t216 t217).bind fun t230 => (if t230 = true then (laws_FnExactParseMatrix.j0 k a0 t220 (bt222.2.2.2.2 != t220) t214 t215 t216 t217 bt222.1 bt222.2.1 bt222.2.2.1 bt222.2.2.2.1) else (laws_FnExactParseMatrix.j0 k a0 t220 true t214 t215 t216 t217 bt222.1 bt222.2.1 bt222.2.2.1 bt222.2.2.2.1)))) = some r := H
    have A3 := Aside0.mk A30
    clear A30
    replace H := Option.bind_eq_some_iff.mp H
    obtain ⟨⟨t222, t223, t224, t225, t228⟩, A40, H⟩ := H
    replace H : ((laws_eqMatrix.f k t222 t223 t224 t225 t214 t215 t216 t217).bind fun t230 => (if t230 = true then (laws_FnExactParseMatrix.j0 k a0 t220 (t228 != t220) t214 t215 t216 t217 t222 t223 t224 t225) else (laws_FnExactParseMatrix.j0 k a0 t220 true t214 t215 t216 t217 t222 t223 t224 t225))) = some r := H
    have A4 := Aside0.mk A40
    clear A40
    have HC5 := Aside0.mk H
    clear H
    go_enter Tryd.func3, Tryd.ntmps3
    go_upto_region 5 with (first | ((with_reducible refine gate_callee (f := 4) rfl ?_); refine goesL_ (some 16) rfl rfl Tryd.func4 (by kernel_rfl) rfl #[.string a0] rfl sqM ?_; (with_reducible refine (spec_ParseMatrix.calls k a0 t214 t215 t216 t217 t220 _ A3.out).mono ?_); rintro e w6 ⟨v218, rfl, ho0, hb⟩; refine ⟨_, rfl, ?_⟩; have n0_ := Aside0.mk (Kd.R_lower ho0 (below_size sqB)); have n1_ := Aside0.mk (below_step sqB hb); clear HB; have HO219 := n0_; have HB := n1_; clear n0_ n1_; (try clear hb); (try clear hb2); (try clear hk); (try clear hi); (try clear ho0)) | ((with_reducible refine gate_dst (N := 3) rfl ?_); refine box_event ?hg (N := 3) ?hd (cs := #[.int .i64 0, .int .i64 0, .int .i64 0, .slice none 0 0]) (t := 24) ?hr ?_; (case hd => rfl); (case hg => rfl); (case hr => exact sqG); intro gb221 hg w7 hbox hb; have n0_ := Aside0.mk (Kd.R_below (sqR HO219.out) hb); have n1_ := Aside0.mk (below_step sqB hb); have n2_ := Aside0.mk (hbox); have n3_ := Aside0.mk ((sqS hg : w.heap.size ≤ gb221)); have n4_ := Aside0.mk ((sqS hg : w.heap.size ≤ gb221)); clear HO219; clear HB; have HO219 := n0_; have HB := n1_; have BK221 := n2_; have GW221 := n3_; have GE221 := n4_; clear n0_ n1_ n2_ n3_ n4_; clear hb hbox hg; have hcz8_0 : w7.cell? ⟨gb221, 0, none⟩ = some (.int .i64 0) := (blk_cell BK221.out 0).trans rfl; have hcz8_1 : w7.cell? ⟨gb221, 1, none⟩ = some (.int .i64 0) := (blk_cell BK221.out 1).trans rfl; have hcz8_2 : w7.cell? ⟨gb221, 2, none⟩ = some (.int .i64 0) := (blk_cell BK221.out 2).trans rfl; have hcz8_3 : w7.cell? ⟨gb221, 3, none⟩ = some (.slice none 0 0) := (blk_cell BK221.out 3).trans rfl; have hfz8_0 := blk_frozen BK221.out 0; have hfz8_1 := blk_frozen BK221.out 1; have hfz8_2 := blk_frozen BK221.out 2; have hfz8_3 := blk_frozen BK221.out 3; obtain ⟨Ao9, co9, eo9⟩ := Kd.R_slice HO219.out; subst eo9) | ((with_reducible refine gate_callee (f := 5) rfl ?_); refine goesL_ (some 21) rfl rfl Tryd.func5 (by kernel_rfl) rfl #[.string a0] rfl sqM ?_; (with_reducible refine (impl_ParseMatrix.calls k a0 t222 t223 t224 t225 t228 _ A4.out).mono ?_); rintro e w10 ⟨v226, rfl, ho0, hb⟩; refine ⟨_, rfl, ?_⟩; have n0_ := Aside0.mk (Kd.R_elder' (by refine sqR ?_; exact (Kd.R_mono (Kd.R_far (p := ⟨gb221, 3, none⟩) (Kd.R_far (p := ⟨gb221, 2, none⟩) (Kd.R_far (p := ⟨gb221, 1, none⟩) (Kd.R_far (p := ⟨gb221, 0, none⟩) (Kd.R_types HO219.out BK221.out (by decide)) (fun _ hk => hk.2) (.int .i64 t214)) (fun _ hk => hk.2) (.int .i64 t215)) (fun _ hk => hk.2) (.int .i64 t216)) (fun _ hk => hk.2) (.slice Ao9 t217.length co9)) (fun _ h_ => h_.1))) (Kd.R_base ho0) hb); have n1_ := Aside0.mk (Kd.R_lower (Kd.R_new' ho0 (Kd.R_lt (by refine sqR ?_; exact (Kd.R_mono (Kd.R_far (p := ⟨gb221, 3, none⟩) (Kd.R_far (p := ⟨gb221, 2, none⟩) (Kd.R_far (p := ⟨gb221, 1, none⟩) (Kd.R_far (p := ⟨gb221, 0, none⟩) (Kd.R_types HO219.out BK221.out (by decide)) (fun _ hk => hk.2) (.int .i64 t214)) (fun _ hk => hk.2) (.int .i64 t215)) (fun _ hk => hk.2) (.int .i64 t216)) (fun _ hk => hk.2) (.slice Ao9 t217.length co9)) (fun _ h_ => h_.1))))) (below_size sqB)); have n2_ := Aside0.mk (blk_below (g := gb221) (o := .cells #[.int .i64 t214, .int .i64 t215, .int .i64 t216, .slice Ao9 t217.length co9] 24 (0, 0)) (by refine sqK ?_; refine blk_put (cs := #[.int .i64 t214, .int .i64 t215, .int .i64 t216, .slice none 0 0]) ?_ 3 _ rfl; refine sqK ?_; refine blk_put (cs := #[.int .i64 t214, .int .i64 t215, .int .i64 0, .slice none 0 0]) ?_ 2 _ rfl; refine sqK ?_; refine blk_put (cs := #[.int .i64 t214, .int .i64 0, .int .i64 0, .slice none 0 0]) ?_ 1 _ rfl; refine sqK ?_; refine blk_put (cs := #[.int .i64 0, .int .i64 0, .int .i64 0, .slice none 0 0]) ?_ 0 _ rfl; refine sqK ?_; exact BK221.out) hb); have n3_ := Aside0.mk (below_step sqB hb); clear HO219; clear BK221; clear HB; have HO219 := n0_; have HO227 := n1_; have BK221 := n2_; have HB := n3_; clear n0_ n1_ n2_ n3_; (try clear hb); (try clear hb2); (try clear hk); (try clear hi); (try clear ho0)) | ((with_reducible refine gate_dst (N := 5) rfl ?_); refine box_event ?hg (N := 5) ?hd (cs := #[.int .i64 0, .int .i64 0, .int .i64 0, .slice none 0 0]) (t := 24) ?hr ?_; (case hd => rfl); (case hg => rfl); (case hr => exact sqG); intro gb229 hg w11 hbox hb; have n0_ := Aside0.mk (Kd.R_below (sqR HO219.out) hb); have n1_ := Aside0.mk (Kd.R_below (sqR HO227.out) hb); have n2_ := Aside0.mk (blk_below (g := gb221) (o := .cells #[.int .i64 t214, .int .i64 t215, .int .i64 t216, .slice Ao9 t217.length co9] 24 (0, 0)) (sqK BK221.out) hb); have n3_ := Aside0.mk (below_step sqB hb); have n4_ := Aside0.mk (hbox); have n5_ := Aside0.mk ((sqS hg : w.heap.size ≤ gb229)); have n6_ := Aside0.mk ((sqS hg : w.heap.size ≤ gb229)); have n7_ := Aside0.mk ((by rw [hg]; exact Nat.ne_of_lt (blk_lt (g := gb221) (o := .cells #[.int .i64 t214, .int .i64 t215, .int .i64 t216, .slice Ao9 t217.length co9] 24 (0, 0)) (sqK BK221.out)) : gb221 ≠ gb229)); have n8_ := Aside0.mk ((by rw [hg]; exact Nat.ne_of_gt (blk_lt (g := gb221) (o := .cells #[.int .i64 t214, .int .i64 t215, .int .i64 t216, .slice Ao9 t217.length co9] 24 (0, 0)) (sqK BK221.out)) : gb229 ≠ gb221)); clear HO219; clear HO227; clear BK221; clear HB; have HO219 := n0_; have HO227 := n1_; have BK221 := n2_; have HB := n3_; have BK229 := n4_; have GW229 := n5_; have GE229 := n6_; have NB221_229 := n7_; have NB229_221 := n8_; clear n0_ n1_ n2_ n3_ n4_ n5_ n6_ n7_ n8_; clear hb hbox hg; have hnb12 := NB229_221.out; have hnc12 := NB221_229.out; have hcz13_0 : w11.cell? ⟨gb229, 0, none⟩ = some (.int .i64 0) := (blk_cell BK229.out 0).trans rfl; have hcz13_1 : w11.cell? ⟨gb229, 1, none⟩ = some (.int .i64 0) := (blk_cell BK229.out 1).trans rfl; have hcz13_2 : w11.cell? ⟨gb229, 2, none⟩ = some (.int .i64 0) := (blk_cell BK229.out 2).trans rfl; have hcz13_3 : w11.cell? ⟨gb229, 3, none⟩ = some (.slice none 0 0) := (blk_cell BK229.out 3).trans rfl; have hfz13_0 := blk_frozen BK229.out 0; have hfz13_1 := blk_frozen BK229.out 1; have hfz13_2 := blk_frozen BK229.out 2; have hfz13_3 := blk_frozen BK229.out 3; obtain ⟨Ao14, co14, eo14⟩ := Kd.R_slice HO227.out; subst eo14))
    (try simp only [Act.put, List.setIfInBounds_toArray, List.set_cons_zero, List.set_cons_succ])
    go_cut [32] (fun v32 wc => ∃ (kq : Nat) (x32_4 : Bool), v32 = .bool x32_4 ∧ Aside0 (laws_FnExactParseMatrix.j0 kq a0 t220 x32_4 t214 t215 t216 t217 t222 t223 t224 t225 = some r) ∧ Aside0 (kq ≤ k) ∧ Aside0 (Kd.R (Kd.int .i64) 3 wc w.heap.size (fun k_ => some k_ ≠ ((.slice Ao14 t225.length co14) : Value).ownBlock) (.slice Ao9 t217.length co9) t217) ∧ Aside0 (Kd.R (Kd.int .i64) 3 wc w.heap.size (fun k_ => some k_ ≠ ((.slice Ao9 t217.length co9) : Value).ownBlock) (.slice Ao14 t225.length co14) t225) ∧ Aside0 (wc.heap[gb221]? = some (.cells #[.int .i64 t214, .int .i64 t215, .int .i64 t216, (.slice Ao9 t217.length co9)] 24 (0, 0))) ∧ Aside0 (wc.heap[gb229]? = some (.cells #[.int .i64 t222, .int .i64 t223, .int .i64 t224, (.slice Ao14 t225.length co14)] 24 (0, 0))) ∧ Aside0 (Below w.heap.size w wc))
    case first =>
      have H := HC5.out
      clear HC5
      replace H := Option.bind_eq_some_iff.mp H
      obtain ⟨t230, A150, H⟩ := H
      replace H : (if t230 = true then (laws_FnExactParseMatrix.j0 k a0 t220 (t228 != t220) t214 t215 t216 t217 t222 t223 t224 t225) else (laws_FnExactParseMatrix.j0 k a0 t220 true t214 t215 t216 t217 t222 t223 t224 t225)) = some r := H
      have A15 := Aside0.mk A150
      clear A150
      by_cases c16 : t230 = true
      · subst c16
        have H1 : (laws_FnExactParseMatrix.j0 k a0 t220 (t228 != t220) t214 t215 t216 t217 t222 t223 t224 t225) = some r := by rw [if_pos rfl] at H; exact H
        clear H
        have H := H1
        clear H1
        have H' := Aside0.mk H
        clear H
        have hnb17 := NB229_221.out
        have hnc17 := NB221_229.out
        have hcz18_0 : w11.cell? ⟨gb229, 0, none⟩ = some (.int .i64 0) := (blk_cell BK229.out 0).trans rfl
        have hcz18_1 : w11.cell? ⟨gb229, 1, none⟩ = some (.int .i64 0) := (blk_cell BK229.out 1).trans rfl
        have hcz18_2 : w11.cell? ⟨gb229, 2, none⟩ = some (.int .i64 0) := (blk_cell BK229.out 2).trans rfl
        have hcz18_3 : w11.cell? ⟨gb229, 3, none⟩ = some (.slice none 0 0) := (blk_cell BK229.out 3).trans rfl
        have hfz18_0 := blk_frozen BK229.out 0; have hfz18_1 := blk_frozen BK229.out 1; have hfz18_2 := blk_frozen BK229.out 2; have hfz18_3 := blk_frozen BK229.out 3
        have hcz19_0 : w11.cell? ⟨gb221, 0, none⟩ = some (.int .i64 t214) := (blk_cell BK221.out 0).trans rfl
        have hcz19_1 : w11.cell? ⟨gb221, 1, none⟩ = some (.int .i64 t215) := (blk_cell BK221.out 1).trans rfl
        have hcz19_2 : w11.cell? ⟨gb221, 2, none⟩ = some (.int .i64 t216) := (blk_cell BK221.out 2).trans rfl
        have hcz19_3 : w11.cell? ⟨gb221, 3, none⟩ = some (.slice Ao9 t217.length co9) := (blk_cell BK221.out 3).trans rfl
        have hfz19_0 := blk_frozen BK221.out 0; have hfz19_1 := blk_frozen BK221.out 1; have hfz19_2 := blk_frozen BK221.out 2; have hfz19_3 := blk_frozen BK221.out 3
        go_wp2_with (first | ((with_reducible refine gate_callee (f := 6) rfl ?_); refine goesL_ (some 26) rfl rfl Tryd.func6 (by kernel_rfl) rfl #[.agg #[.int .i64 t222, .int .i64 t223, .int .i64 t224, .slice Ao14 t225.length co14], .agg #[.int .i64 t214, .int .i64 t215, .int .i64 t216, .slice Ao9 t217.length co9]] rfl sqM ?_; (with_reducible refine (laws_eqMatrix.calls k t222 t223 t224 _ _ t225 t214 t215 t216 _ _ t217 true _ ?side1 ?side2 ?side3 ?side4 A15.out).mono ?_); (case side1 => refine (Kd.R_reads' (e := 3) (base := w.heap.size) (ok := fun k_ => (True ∧ some k_ ≠ (.slice Ao9 t217.length co9 : Value).ownBlock)) (n := t225.length) (c := co14) ?_).2.2; exact (by refine sqR ?_; exact (Kd.R_mono (Kd.R_far (p := ⟨gb229, 3, none⟩) (Kd.R_far (p := ⟨gb229, 2, none⟩) (Kd.R_far (p := ⟨gb229, 1, none⟩) (Kd.R_far (p := ⟨gb229, 0, none⟩) (Kd.R_types HO227.out BK229.out (by decide)) (fun _ hk => hk.2) (.int .i64 t222)) (fun _ hk => hk.2) (.int .i64 t223)) (fun _ hk => hk.2) (.int .i64 t224)) (fun _ hk => hk.2) (.slice Ao14 t225.length co14)) (fun _ h_ => h_.1)))); (case side2 => exact (Kd.R_reads' HO227.out).2.1); (case side3 => refine (Kd.R_reads' (e := 3) (base := w.heap.size) (ok := fun k_ => (True ∧ some k_ ≠ (.slice Ao14 t225.length co14 : Value).ownBlock)) (n := t217.length) (c := co9) ?_).2.2; exact (by refine sqR ?_; exact (Kd.R_mono (Kd.R_far (p := ⟨gb229, 3, none⟩) (Kd.R_far (p := ⟨gb229, 2, none⟩) (Kd.R_far (p := ⟨gb229, 1, none⟩) (Kd.R_far (p := ⟨gb229, 0, none⟩) (Kd.R_types HO219.out BK229.out (by decide)) (fun _ hk => hk.2) (.int .i64 t222)) (fun _ hk => hk.2) (.int .i64 t223)) (fun _ hk => hk.2) (.int .i64 t224)) (fun _ hk => hk.2) (.slice Ao14 t225.length co14)) (fun _ h_ => h_.1)))); (case side4 => exact (Kd.R_reads' HO219.out).2.1); rintro e w20 ⟨rfl, hb⟩; refine ⟨_, rfl, ?_⟩; have n0_ := Aside0.mk (Kd.R_below (by refine sqR ?_; exact (Kd.R_mono (Kd.R_far (p := ⟨gb229, 3, none⟩) (Kd.R_far (p := ⟨gb229, 2, none⟩) (Kd.R_far (p := ⟨gb229, 1, none⟩) (Kd.R_far (p := ⟨gb229, 0, none⟩) (Kd.R_types HO219.out BK229.out (by decide)) (fun _ hk => hk.2) (.int .i64 t222)) (fun _ hk => hk.2) (.int .i64 t223)) (fun _ hk => hk.2) (.int .i64 t224)) (fun _ hk => hk.2) (.slice Ao14 t225.length co14)) (fun _ h_ => h_.1))) hb); have n1_ := Aside0.mk (Kd.R_below (by refine sqR ?_; exact (Kd.R_mono (Kd.R_far (p := ⟨gb229, 3, none⟩) (Kd.R_far (p := ⟨gb229, 2, none⟩) (Kd.R_far (p := ⟨gb229, 1, none⟩) (Kd.R_far (p := ⟨gb229, 0, none⟩) (Kd.R_types HO227.out BK229.out (by decide)) (fun _ hk => hk.2) (.int .i64 t222)) (fun _ hk => hk.2) (.int .i64 t223)) (fun _ hk => hk.2) (.int .i64 t224)) (fun _ hk => hk.2) (.slice Ao14 t225.length co14)) (fun _ h_ => h_.1))) hb); have n2_ := Aside0.mk (blk_below (g := gb221) (o := .cells #[.int .i64 t214, .int .i64 t215, .int .i64 t216, .slice Ao9 t217.length co9] 24 (0, 0)) (by refine sqK ?_; refine blk_far ?_ NB221_229.out _; refine sqK ?_; refine blk_far ?_ NB221_229.out _; refine sqK ?_; refine blk_far ?_ NB221_229.out _; refine sqK ?_; refine blk_far ?_ NB221_229.out _; refine sqK ?_; exact BK221.out) hb); have n3_ := Aside0.mk (blk_below (g := gb229) (o := .cells #[.int .i64 t222, .int .i64 t223, .int .i64 t224, .slice Ao14 t225.length co14] 24 (0, 0)) (by refine sqK ?_; refine blk_put (cs := #[.int .i64 t222, .int .i64 t223, .int .i64 t224, .slice none 0 0]) ?_ 3 _ rfl; refine sqK ?_; refine blk_put (cs := #[.int .i64 t222, .int .i64 t223, .int .i64 0, .slice none 0 0]) ?_ 2 _ rfl; refine sqK ?_; refine blk_put (cs := #[.int .i64 t222, .int .i64 0, .int .i64 0, .slice none 0 0]) ?_ 1 _ rfl; refine sqK ?_; refine blk_put (cs := #[.int .i64 0, .int .i64 0, .int .i64 0, .slice none 0 0]) ?_ 0 _ rfl; refine sqK ?_; exact BK229.out) hb); have n4_ := Aside0.mk (below_step sqB hb); clear HO219; clear HO227; clear BK221; clear BK229; clear HB; have HO219 := n0_; have HO227 := n1_; have BK221 := n2_; have BK229 := n3_; have HB := n4_; clear n0_ n1_ n2_ n3_ n4_; (try clear hb); (try clear hb2); (try clear hk); (try clear hi)))
        go_meet
        case rel => exact ⟨_, ((t228 != t220)), (sqD), H', ⟨by first | omega | exact Nat.le_refl _⟩, ⟨by refine sqR ?_; exact Kd.R_mono HO219.out (fun _ hk => hk.2)⟩, ⟨by refine sqR ?_; exact Kd.R_mono HO227.out (fun _ hk => hk.2)⟩, ⟨sqK BK221.out⟩, ⟨sqK BK229.out⟩, ⟨sqB⟩⟩
      · replace c16 := Bool.eq_false_iff.mpr c16
        subst c16
        have H1 : (laws_FnExactParseMatrix.j0 k a0 t220 true t214 t215 t216 t217 t222 t223 t224 t225) = some r := by rw [if_neg (show ¬ (false = true) by decide)] at H; exact H
        clear H
        have H := H1
        clear H1
        have H' := Aside0.mk H
        clear H
        have hnb21 := NB229_221.out
        have hnc21 := NB221_229.out
        have hcz22_0 : w11.cell? ⟨gb229, 0, none⟩ = some (.int .i64 0) := (blk_cell BK229.out 0).trans rfl
        have hcz22_1 : w11.cell? ⟨gb229, 1, none⟩ = some (.int .i64 0) := (blk_cell BK229.out 1).trans rfl
        have hcz22_2 : w11.cell? ⟨gb229, 2, none⟩ = some (.int .i64 0) := (blk_cell BK229.out 2).trans rfl
        have hcz22_3 : w11.cell? ⟨gb229, 3, none⟩ = some (.slice none 0 0) := (blk_cell BK229.out 3).trans rfl
        have hfz22_0 := blk_frozen BK229.out 0; have hfz22_1 := blk_frozen BK229.out 1; have hfz22_2 := blk_frozen BK229.out 2; have hfz22_3 := blk_frozen BK229.out 3
        have hcz23_0 : w11.cell? ⟨gb221, 0, none⟩ = some (.int .i64 t214) := (blk_cell BK221.out 0).trans rfl
        have hcz23_1 : w11.cell? ⟨gb221, 1, none⟩ = some (.int .i64 t215) := (blk_cell BK221.out 1).trans rfl
        have hcz23_2 : w11.cell? ⟨gb221, 2, none⟩ = some (.int .i64 t216) := (blk_cell BK221.out 2).trans rfl
        have hcz23_3 : w11.cell? ⟨gb221, 3, none⟩ = some (.slice Ao9 t217.length co9) := (blk_cell BK221.out 3).trans rfl
        have hfz23_0 := blk_frozen BK221.out 0; have hfz23_1 := blk_frozen BK221.out 1; have hfz23_2 := blk_frozen BK221.out 2; have hfz23_3 := blk_frozen BK221.out 3
        go_wp2_with (first | ((with_reducible refine gate_callee (f := 6) rfl ?_); refine goesL_ (some 26) rfl rfl Tryd.func6 (by kernel_rfl) rfl #[.agg #[.int .i64 t222, .int .i64 t223, .int .i64 t224, .slice Ao14 t225.length co14], .agg #[.int .i64 t214, .int .i64 t215, .int .i64 t216, .slice Ao9 t217.length co9]] rfl sqM ?_; (with_reducible refine (laws_eqMatrix.calls k t222 t223 t224 _ _ t225 t214 t215 t216 _ _ t217 false _ ?side1 ?side2 ?side3 ?side4 A15.out).mono ?_); (case side1 => refine (Kd.R_reads' (e := 3) (base := w.heap.size) (ok := fun k_ => (True ∧ some k_ ≠ (.slice Ao9 t217.length co9 : Value).ownBlock)) (n := t225.length) (c := co14) ?_).2.2; exact (by refine sqR ?_; exact (Kd.R_mono (Kd.R_far (p := ⟨gb229, 3, none⟩) (Kd.R_far (p := ⟨gb229, 2, none⟩) (Kd.R_far (p := ⟨gb229, 1, none⟩) (Kd.R_far (p := ⟨gb229, 0, none⟩) (Kd.R_types HO227.out BK229.out (by decide)) (fun _ hk => hk.2) (.int .i64 t222)) (fun _ hk => hk.2) (.int .i64 t223)) (fun _ hk => hk.2) (.int .i64 t224)) (fun _ hk => hk.2) (.slice Ao14 t225.length co14)) (fun _ h_ => h_.1)))); (case side2 => exact (Kd.R_reads' HO227.out).2.1); (case side3 => refine (Kd.R_reads' (e := 3) (base := w.heap.size) (ok := fun k_ => (True ∧ some k_ ≠ (.slice Ao14 t225.length co14 : Value).ownBlock)) (n := t217.length) (c := co9) ?_).2.2; exact (by refine sqR ?_; exact (Kd.R_mono (Kd.R_far (p := ⟨gb229, 3, none⟩) (Kd.R_far (p := ⟨gb229, 2, none⟩) (Kd.R_far (p := ⟨gb229, 1, none⟩) (Kd.R_far (p := ⟨gb229, 0, none⟩) (Kd.R_types HO219.out BK229.out (by decide)) (fun _ hk => hk.2) (.int .i64 t222)) (fun _ hk => hk.2) (.int .i64 t223)) (fun _ hk => hk.2) (.int .i64 t224)) (fun _ hk => hk.2) (.slice Ao14 t225.length co14)) (fun _ h_ => h_.1)))); (case side4 => exact (Kd.R_reads' HO219.out).2.1); rintro e w24 ⟨rfl, hb⟩; refine ⟨_, rfl, ?_⟩; have n0_ := Aside0.mk (Kd.R_below (by refine sqR ?_; exact (Kd.R_mono (Kd.R_far (p := ⟨gb229, 3, none⟩) (Kd.R_far (p := ⟨gb229, 2, none⟩) (Kd.R_far (p := ⟨gb229, 1, none⟩) (Kd.R_far (p := ⟨gb229, 0, none⟩) (Kd.R_types HO219.out BK229.out (by decide)) (fun _ hk => hk.2) (.int .i64 t222)) (fun _ hk => hk.2) (.int .i64 t223)) (fun _ hk => hk.2) (.int .i64 t224)) (fun _ hk => hk.2) (.slice Ao14 t225.length co14)) (fun _ h_ => h_.1))) hb); have n1_ := Aside0.mk (Kd.R_below (by refine sqR ?_; exact (Kd.R_mono (Kd.R_far (p := ⟨gb229, 3, none⟩) (Kd.R_far (p := ⟨gb229, 2, none⟩) (Kd.R_far (p := ⟨gb229, 1, none⟩) (Kd.R_far (p := ⟨gb229, 0, none⟩) (Kd.R_types HO227.out BK229.out (by decide)) (fun _ hk => hk.2) (.int .i64 t222)) (fun _ hk => hk.2) (.int .i64 t223)) (fun _ hk => hk.2) (.int .i64 t224)) (fun _ hk => hk.2) (.slice Ao14 t225.length co14)) (fun _ h_ => h_.1))) hb); have n2_ := Aside0.mk (blk_below (g := gb221) (o := .cells #[.int .i64 t214, .int .i64 t215, .int .i64 t216, .slice Ao9 t217.length co9] 24 (0, 0)) (by refine sqK ?_; refine blk_far ?_ NB221_229.out _; refine sqK ?_; refine blk_far ?_ NB221_229.out _; refine sqK ?_; refine blk_far ?_ NB221_229.out _; refine sqK ?_; refine blk_far ?_ NB221_229.out _; refine sqK ?_; exact BK221.out) hb); have n3_ := Aside0.mk (blk_below (g := gb229) (o := .cells #[.int .i64 t222, .int .i64 t223, .int .i64 t224, .slice Ao14 t225.length co14] 24 (0, 0)) (by refine sqK ?_; refine blk_put (cs := #[.int .i64 t222, .int .i64 t223, .int .i64 t224, .slice none 0 0]) ?_ 3 _ rfl; refine sqK ?_; refine blk_put (cs := #[.int .i64 t222, .int .i64 t223, .int .i64 0, .slice none 0 0]) ?_ 2 _ rfl; refine sqK ?_; refine blk_put (cs := #[.int .i64 t222, .int .i64 0, .int .i64 0, .slice none 0 0]) ?_ 1 _ rfl; refine sqK ?_; refine blk_put (cs := #[.int .i64 0, .int .i64 0, .int .i64 0, .slice none 0 0]) ?_ 0 _ rfl; refine sqK ?_; exact BK229.out) hb); have n4_ := Aside0.mk (below_step sqB hb); clear HO219; clear HO227; clear BK221; clear BK229; clear HB; have HO219 := n0_; have HO227 := n1_; have BK221 := n2_; have BK229 := n3_; have HB := n4_; clear n0_ n1_ n2_ n3_ n4_; (try clear hb); (try clear hb2); (try clear hk); (try clear hi)))
        go_meet
        case rel => exact ⟨_, (true), (sqD), H', ⟨by first | omega | exact Nat.le_refl _⟩, ⟨by refine sqR ?_; exact Kd.R_mono HO219.out (fun _ hk => hk.2)⟩, ⟨by refine sqR ?_; exact Kd.R_mono HO227.out (fun _ hk => hk.2)⟩, ⟨sqK BK221.out⟩, ⟨sqK BK229.out⟩, ⟨sqB⟩⟩
    case rest =>
      clear HC5
      try clear c1
      try clear c2
      try clear c2b0
      try clear c2b1
      try clear p2
      try clear c3
      try clear c4
      try clear c5
      try clear c6
      try clear c12
      try clear c16
      try clear c17
      try clear c21
      try clear hcz13_0
      try clear hcz13_1
      try clear hcz13_2
      try clear hcz13_3
      try clear hcz18_0
      try clear hcz18_1
      try clear hcz18_2
      try clear hcz18_3
      try clear hcz19_0
      try clear hcz19_1
      try clear hcz19_2
      try clear hcz19_3
      try clear hcz22_0
      try clear hcz22_1
      try clear hcz22_2
      try clear hcz22_3
      try clear hcz23_0
      try clear hcz23_1
      try clear hcz23_2
      try clear hcz23_3
      try clear hcz8_0
      try clear hcz8_1
      try clear hcz8_2
      try clear hcz8_3
      try clear hfz13_0
      try clear hfz13_1
      try clear hfz13_2
      try clear hfz13_3
      try clear hfz18_0
      try clear hfz18_1
      try clear hfz18_2
      try clear hfz18_3
      try clear hfz19_0
      try clear hfz19_1
      try clear hfz19_2
      try clear hfz19_3
      try clear hfz22_0
      try clear hfz22_1
      try clear hfz22_2
      try clear hfz22_3
      try clear hfz23_0
      try clear hfz23_1
      try clear hfz23_2
      try clear hfz23_3
      try clear hfz8_0
      try clear hfz8_1
      try clear hfz8_2
      try clear hfz8_3
      obtain ⟨kq, x32_4, rfl, HA, HJ4, HO_222003, HO_230003, BK221, BK229, HB⟩ := hcut
      cases kq with
      | zero => exact absurd HA.out (by simp [laws_FnExactParseMatrix.j0])
      | succ kj4 =>
        have H := HA.out
        clear HA
        simp only [laws_FnExactParseMatrix.j0] at H
        by_cases c25 : x32_4 = true
        · subst c25
          have H1 : (none) = some r := by rw [if_pos rfl] at H; exact H
          clear H
          have H := H1
          clear H1
          exact absurd H (by simp)
        · replace c25 := Bool.eq_false_iff.mpr c25
          subst c25
          have H1 : ((laws_markMatrix.f kj4 t222 t223 t224 t225 1).bind fun bt231 => ((laws_heldMatrix.f kj4 t222 t223 t224 bt231.2 1).bind fun t233 => (if t233 < 0 then (none) else (if t233 = bt231.1 then ((impl_ParseMatrix.f kj4 a0).bind fun bt234 => ((laws_eqMatrix.f kj4 bt234.1 bt234.2.1 bt234.2.2.1 bt234.2.2.2.1 t214 t215 t216 t217).bind fun t242 => (if t242 = true then (laws_FnExactParseMatrix.j1 kj4 bt231.1 (bt234.2.2.2.2 != t220) t222 t223 t224 bt231.2) else (laws_FnExactParseMatrix.j1 kj4 bt231.1 true t222 t223 t224 bt231.2)))) else (none))))) = some r := by rw [if_neg (show ¬ (false = true) by decide)] at H; exact H
          clear H
          have H := H1
          clear H1
          replace H := Option.bind_eq_some_iff.mp H
          obtain ⟨⟨t231, t232⟩, A260, H⟩ := H
          replace H : ((laws_heldMatrix.f kj4 t222 t223 t224 t232 1).bind fun t233 => (if t233 < 0 then (none) else (if t233 = t231 then ((impl_ParseMatrix.f kj4 a0).bind fun bt234 => ((laws_eqMatrix.f kj4 bt234.1 bt234.2.1 bt234.2.2.1 bt234.2.2.2.1 t214 t215 t216 t217).bind fun t242 => (if t242 = true then (laws_FnExactParseMatrix.j1 kj4 t231 (bt234.2.2.2.2 != t220) t222 t223 t224 t232) else (laws_FnExactParseMatrix.j1 kj4 t231 true t222 t223 t224 t232)))) else (none)))) = some r := H
          have A26 := Aside0.mk A260
          clear A260
          replace H := Option.bind_eq_some_iff.mp H
          obtain ⟨t233, A270, H⟩ := H
          replace H : (if t233 < 0 then (none) else (if t233 = t231 then ((impl_ParseMatrix.f kj4 a0).bind fun bt234 => ((laws_eqMatrix.f kj4 bt234.1 bt234.2.1 bt234.2.2.1 bt234.2.2.2.1 t214 t215 t216 t217).bind fun t242 => (if t242 = true then (laws_FnExactParseMatrix.j1 kj4 t231 (bt234.2.2.2.2 != t220) t222 t223 t224 t232) else (laws_FnExactParseMatrix.j1 kj4 t231 true t222 t223 t224 t232)))) else (none))) = some r := H
          have A27 := Aside0.mk A270
          clear A270
          by_cases c28 : t233 < 0
          · rw [if_pos c28] at H
            exact absurd H (by simp)
          · rw [if_neg c28] at H
            have c28b0 : decide (t233 < 0) = false := decide_eq_false c28
            clear c28
            by_cases c29 : t233 = t231
            · rw [if_pos c29] at H
              have c29b0 : (t233 == t231) = true := beq_iff_eq.mpr c29
              have c29b1 : (t233 != t231) = false := bne_eq_false_iff_eq.mpr c29
              clear c29
              replace H := Option.bind_eq_some_iff.mp H
              obtain ⟨⟨t234, t235, t236, t237, t240⟩, A300, H⟩ := H
              replace H : ((laws_eqMatrix.f kj4 t234 t235 t236 t237 t214 t215 t216 t217).bind fun t242 => (if t242 = true then (laws_FnExactParseMatrix.j1 kj4 t231 (t240 != t220) t222 t223 t224 t232) else (laws_FnExactParseMatrix.j1 kj4 t231 true t222 t223 t224 t232))) = some r := H
              have A30 := Aside0.mk A300
              clear A300
              have HC31 := Aside0.mk H
              clear H
              have hnb32 := NB229_221.out
              have hnc32 := NB221_229.out
              have hcz33_0 : wc.cell? ⟨gb229, 0, none⟩ = some (.int .i64 t222) := (blk_cell BK229.out 0).trans rfl
              have hcz33_1 : wc.cell? ⟨gb229, 1, none⟩ = some (.int .i64 t223) := (blk_cell BK229.out 1).trans rfl
              have hcz33_2 : wc.cell? ⟨gb229, 2, none⟩ = some (.int .i64 t224) := (blk_cell BK229.out 2).trans rfl
              have hcz33_3 : wc.cell? ⟨gb229, 3, none⟩ = some (.slice Ao14 t225.length co14) := (blk_cell BK229.out 3).trans rfl
              have hfz33_0 := blk_frozen BK229.out 0; have hfz33_1 := blk_frozen BK229.out 1; have hfz33_2 := blk_frozen BK229.out 2; have hfz33_3 := blk_frozen BK229.out 3
              go_upto_region 16 with (first | ((with_reducible refine gate_callee (f := 7) rfl ?_); refine goesL_ (some 35) rfl rfl Tryd.func7 (by kernel_rfl) rfl #[.agg #[.int .i64 t222, .int .i64 t223, .int .i64 t224, .slice Ao14 t225.length co14], .int .i64 1] rfl sqM ?_; (with_reducible refine (laws_markMatrix.calls kj4 t222 t223 t224 (fun k_ => some k_ = (.slice Ao14 t225.length co14 : Value).ownBlock) (.slice Ao14 t225.length co14) t225 1 t231 t232 w _ ?side1 ?side2 A26.out).mono ?_); (case side1 => repeat (first | (with_reducible first | exact HB.out | apply below_alloc | apply pw_below_drewN | apply below_drew1 | refine below_set ?_ GE221.out | refine below_set ?_ GE229.out) | exact HB.out)); (case side2 => exact Kd.R_tight rfl HO_230003.out); rintro e w34 ⟨rfl, hy0, hb, hkp⟩; refine ⟨_, rfl, ?_⟩; have n0_ := Aside0.mk (Kd.R_mono (ok' := fun k_ => some k_ ≠ (.slice Ao14 t225.length co14 : Value).ownBlock) (Kd.R_keptB (HO_222003.out) hkp (fun k_ hk_ hs_ => by first | exact hk_ hs_ | (have e_ : some k_ = _ := hs_; simp only [e_, ne_eq, not_true_eq_false, and_false, false_and] at hk_))) (fun k_ hk_ => hk_.1)); have n1_ := Aside0.mk (Kd.R_reok rfl hy0 (fun k_ e_ => HO_230003.out.1 k_ e_)); have n2_ := Aside0.mk (blk_kept (sqK BK221.out) hkp (fun hs_ => (fun e_ => (Kd.R_ne HO_230003.out BK221.out (by decide)) e_) hs_)); have n3_ := Aside0.mk (blk_kept (sqK BK229.out) hkp (fun hs_ => (fun e_ => (Kd.R_ne HO_230003.out BK229.out (by decide)) e_) hs_)); have n4_ := Aside0.mk (hb); clear HO_222003; clear HO_230003; clear BK221; clear BK229; clear HB; have HO_222003 := n0_; have HO_230003 := n1_; have BK221 := n2_; have BK229 := n3_; have HB := n4_; clear n0_ n1_ n2_ n3_ n4_; (try clear hb); (try clear hkp); (try clear hy0); have hcz35_0 : w34.cell? ⟨gb229, 0, none⟩ = some (.int .i64 t222) := (blk_cell BK229.out 0).trans rfl; have hcz35_1 : w34.cell? ⟨gb229, 1, none⟩ = some (.int .i64 t223) := (blk_cell BK229.out 1).trans rfl; have hcz35_2 : w34.cell? ⟨gb229, 2, none⟩ = some (.int .i64 t224) := (blk_cell BK229.out 2).trans rfl; have hcz35_3 : w34.cell? ⟨gb229, 3, none⟩ = some (.slice Ao14 t225.length co14) := (blk_cell BK229.out 3).trans rfl; have hfz35_0 := blk_frozen BK229.out 0; have hfz35_1 := blk_frozen BK229.out 1; have hfz35_2 := blk_frozen BK229.out 2; have hfz35_3 := blk_frozen BK229.out 3) | ((with_reducible refine gate_callee (f := 8) rfl ?_); refine goesL_ (some 38) rfl rfl Tryd.func8 (by kernel_rfl) rfl #[.agg #[.int .i64 t222, .int .i64 t223, .int .i64 t224, .slice Ao14 t232.length co14], .int .i64 1] rfl (by (try simp only [List.map_toArray, List.map_cons, List.map_nil]); first | done | (rw [show t232.length = t225.length from (Kd.R_reads' HO_230003.out).1.symm] <;> rfl) | rfl | (simp only [List.length_drop, List.length_take]; rfl)) ?_; (with_reducible refine (laws_heldMatrix.calls kj4 t222 t223 t224 _ _ t232 1 t233 _ ?side1 ?side2 A27.out).mono ?_); (case side1 => exact sqC (Kd.R_reads' HO_230003.out).2.2); (case side2 => rw [show t232.length = t225.length from (Kd.R_reads' HO_230003.out).1.symm]; exact (Kd.R_reads' HO_230003.out).2.1); rintro e w36 ⟨rfl, hb⟩; refine ⟨_, rfl, ?_⟩; have n0_ := Aside0.mk (Kd.R_below (sqR HO_222003.out) hb); have n1_ := Aside0.mk (Kd.R_below (sqR HO_230003.out) hb); have n2_ := Aside0.mk (blk_below (g := gb221) (o := .cells #[.int .i64 t214, .int .i64 t215, .int .i64 t216, .slice Ao9 t217.length co9] 24 (0, 0)) (sqK BK221.out) hb); have n3_ := Aside0.mk (blk_below (g := gb229) (o := .cells #[.int .i64 t222, .int .i64 t223, .int .i64 t224, .slice Ao14 t225.length co14] 24 (0, 0)) (sqK BK229.out) hb); have n4_ := Aside0.mk (below_step sqB hb); clear HO_222003; clear HO_230003; clear BK221; clear BK229; clear HB; have HO_222003 := n0_; have HO_230003 := n1_; have BK221 := n2_; have BK229 := n3_; have HB := n4_; clear n0_ n1_ n2_ n3_ n4_; (try clear hb); (try clear hb2); (try clear hk); (try clear hi)) | ((with_reducible refine gate_callee (f := 5) rfl ?_); refine goesL_ (some 46) rfl rfl Tryd.func5 (by kernel_rfl) rfl #[.string a0] rfl sqM ?_; (with_reducible refine (impl_ParseMatrix.calls kj4 a0 t234 t235 t236 t237 t240 _ A30.out).mono ?_); rintro e w37 ⟨v238, rfl, ho0, hb⟩; refine ⟨_, rfl, ?_⟩; have n0_ := Aside0.mk (Kd.R_elder' (sqR HO_222003.out) (Kd.R_base ho0) hb); have n1_ := Aside0.mk (Kd.R_elder' (sqR HO_230003.out) (Kd.R_base ho0) hb); have n2_ := Aside0.mk (Kd.R_lower (Kd.R_new' (Kd.R_new' ho0 (Kd.R_lt (sqR HO_222003.out))) (Kd.R_lt (sqR HO_230003.out))) (below_size sqB)); have n3_ := Aside0.mk (blk_below (g := gb221) (o := .cells #[.int .i64 t214, .int .i64 t215, .int .i64 t216, .slice Ao9 t217.length co9] 24 (0, 0)) (sqK BK221.out) hb); have n4_ := Aside0.mk (blk_below (g := gb229) (o := .cells #[.int .i64 t222, .int .i64 t223, .int .i64 t224, .slice Ao14 t225.length co14] 24 (0, 0)) (sqK BK229.out) hb); have n5_ := Aside0.mk (below_step sqB hb); clear HO_222003; clear HO_230003; clear BK221; clear BK229; clear HB; have HO_222003 := n0_; have HO_230003 := n1_; have HO239 := n2_; have BK221 := n3_; have BK229 := n4_; have HB := n5_; clear n0_ n1_ n2_ n3_ n4_ n5_; (try clear hb); (try clear hb2); (try clear hk); (try clear hi); (try clear ho0)) | ((with_reducible refine gate_dst (N := 9) rfl ?_); refine box_event ?hg (N := 9) ?hd (cs := #[.int .i64 0, .int .i64 0, .int .i64 0, .slice none 0 0]) (t := 24) ?hr ?_; (case hd => rfl); (case hg => rfl); (case hr => exact sqG); intro gb241 hg w38 hbox hb; have n0_ := Aside0.mk (Kd.R_below (sqR HO_222003.out) hb); have n1_ := Aside0.mk (Kd.R_below (sqR HO_230003.out) hb); have n2_ := Aside0.mk (Kd.R_below (sqR HO239.out) hb); have n3_ := Aside0.mk (blk_below (g := gb221) (o := .cells #[.int .i64 t214, .int .i64 t215, .int .i64 t216, .slice Ao9 t217.length co9] 24 (0, 0)) (sqK BK221.out) hb); have n4_ := Aside0.mk (blk_below (g := gb229) (o := .cells #[.int .i64 t222, .int .i64 t223, .int .i64 t224, .slice Ao14 t225.length co14] 24 (0, 0)) (sqK BK229.out) hb); have n5_ := Aside0.mk (below_step sqB hb); have n6_ := Aside0.mk (hbox); have n7_ := Aside0.mk ((sqS hg : w.heap.size ≤ gb241)); have n8_ := Aside0.mk ((sqS hg : w.heap.size ≤ gb241)); have n9_ := Aside0.mk ((by rw [hg]; exact Nat.ne_of_lt (blk_lt (g := gb221) (o := .cells #[.int .i64 t214, .int .i64 t215, .int .i64 t216, .slice Ao9 t217.length co9] 24 (0, 0)) (sqK BK221.out)) : gb221 ≠ gb241)); have n10_ := Aside0.mk ((by rw [hg]; exact Nat.ne_of_gt (blk_lt (g := gb221) (o := .cells #[.int .i64 t214, .int .i64 t215, .int .i64 t216, .slice Ao9 t217.length co9] 24 (0, 0)) (sqK BK221.out)) : gb241 ≠ gb221)); have n11_ := Aside0.mk ((by rw [hg]; exact Nat.ne_of_lt (blk_lt (g := gb229) (o := .cells #[.int .i64 t222, .int .i64 t223, .int .i64 t224, .slice Ao14 t225.length co14] 24 (0, 0)) (sqK BK229.out)) : gb229 ≠ gb241)); have n12_ := Aside0.mk ((by rw [hg]; exact Nat.ne_of_gt (blk_lt (g := gb229) (o := .cells #[.int .i64 t222, .int .i64 t223, .int .i64 t224, .slice Ao14 t225.length co14] 24 (0, 0)) (sqK BK229.out)) : gb241 ≠ gb229)); clear HO_222003; clear HO_230003; clear HO239; clear BK221; clear BK229; clear HB; have HO_222003 := n0_; have HO_230003 := n1_; have HO239 := n2_; have BK221 := n3_; have BK229 := n4_; have HB := n5_; have BK241 := n6_; have GW241 := n7_; have GE241 := n8_; have NB221_241 := n9_; have NB241_221 := n10_; have NB229_241 := n11_; have NB241_229 := n12_; clear n0_ n1_ n2_ n3_ n4_ n5_ n6_ n7_ n8_ n9_ n10_ n11_ n12_; clear hb hbox hg; have hnb39 := NB241_221.out; have hnc39 := NB221_241.out; have hnb40 := NB241_229.out; have hnc40 := NB229_241.out; have hcz41_0 : w38.cell? ⟨gb241, 0, none⟩ = some (.int .i64 0) := (blk_cell BK241.out 0).trans rfl; have hcz41_1 : w38.cell? ⟨gb241, 1, none⟩ = some (.int .i64 0) := (blk_cell BK241.out 1).trans rfl; have hcz41_2 : w38.cell? ⟨gb241, 2, none⟩ = some (.int .i64 0) := (blk_cell BK241.out 2).trans rfl; have hcz41_3 : w38.cell? ⟨gb241, 3, none⟩ = some (.slice none 0 0) := (blk_cell BK241.out 3).trans rfl; have hfz41_0 := blk_frozen BK241.out 0; have hfz41_1 := blk_frozen BK241.out 1; have hfz41_2 := blk_frozen BK241.out 2; have hfz41_3 := blk_frozen BK241.out 3; obtain ⟨Ao42, co42, eo42⟩ := Kd.R_slice HO239.out; subst eo42))
              (try simp only [Act.put, List.setIfInBounds_toArray, List.set_cons_zero, List.set_cons_succ])
              go_cut [57] (fun v57 wc => ∃ (kq : Nat) (x57_30 : Bool), v57 = .bool x57_30 ∧ Aside0 (laws_FnExactParseMatrix.j1 kq t231 x57_30 t222 t223 t224 t232 = some r) ∧ Aside0 (kq ≤ kj4) ∧ Aside0 (Kd.R (Kd.int .i64) 3 wc w.heap.size (fun k_ => some k_ ≠ ((.slice Ao14 t225.length co14) : Value).ownBlock ∧ some k_ ≠ ((.slice Ao42 t237.length co42) : Value).ownBlock) (.slice Ao9 t217.length co9) t217) ∧ Aside0 (Kd.R (Kd.int .i64) 3 wc w.heap.size (fun k_ => some k_ ≠ ((.slice Ao9 t217.length co9) : Value).ownBlock ∧ some k_ ≠ ((.slice Ao42 t237.length co42) : Value).ownBlock) (.slice Ao14 t225.length co14) t232) ∧ Aside0 (Kd.R (Kd.int .i64) 3 wc w.heap.size (fun k_ => some k_ ≠ ((.slice Ao9 t217.length co9) : Value).ownBlock ∧ some k_ ≠ ((.slice Ao14 t225.length co14) : Value).ownBlock) (.slice Ao42 t237.length co42) t237) ∧ Aside0 (wc.heap[gb221]? = some (.cells #[.int .i64 t214, .int .i64 t215, .int .i64 t216, (.slice Ao9 t217.length co9)] 24 (0, 0))) ∧ Aside0 (wc.heap[gb229]? = some (.cells #[.int .i64 t222, .int .i64 t223, .int .i64 t224, (.slice Ao14 t225.length co14)] 24 (0, 0))) ∧ Aside0 (wc.heap[gb241]? = some (.cells #[.int .i64 t234, .int .i64 t235, .int .i64 t236, (.slice Ao42 t237.length co42)] 24 (0, 0))) ∧ Aside0 (Below w.heap.size w wc))
              case first =>
                have H := HC31.out
                clear HC31
                replace H := Option.bind_eq_some_iff.mp H
                obtain ⟨t242, A430, H⟩ := H
                replace H : (if t242 = true then (laws_FnExactParseMatrix.j1 kj4 t231 (t240 != t220) t222 t223 t224 t232) else (laws_FnExactParseMatrix.j1 kj4 t231 true t222 t223 t224 t232)) = some r := H
                have A43 := Aside0.mk A430
                clear A430
                by_cases c44 : t242 = true
                · subst c44
                  have H1 : (laws_FnExactParseMatrix.j1 kj4 t231 (t240 != t220) t222 t223 t224 t232) = some r := by rw [if_pos rfl] at H; exact H
                  clear H
                  have H := H1
                  clear H1
                  have H' := Aside0.mk H
                  clear H
                  have hnb45 := NB241_221.out
                  have hnc45 := NB221_241.out
                  have hnb46 := NB241_229.out
                  have hnc46 := NB229_241.out
                  have hcz47_0 : w38.cell? ⟨gb241, 0, none⟩ = some (.int .i64 0) := (blk_cell BK241.out 0).trans rfl
                  have hcz47_1 : w38.cell? ⟨gb241, 1, none⟩ = some (.int .i64 0) := (blk_cell BK241.out 1).trans rfl
                  have hcz47_2 : w38.cell? ⟨gb241, 2, none⟩ = some (.int .i64 0) := (blk_cell BK241.out 2).trans rfl
                  have hcz47_3 : w38.cell? ⟨gb241, 3, none⟩ = some (.slice none 0 0) := (blk_cell BK241.out 3).trans rfl
                  have hfz47_0 := blk_frozen BK241.out 0; have hfz47_1 := blk_frozen BK241.out 1; have hfz47_2 := blk_frozen BK241.out 2; have hfz47_3 := blk_frozen BK241.out 3
                  have hnb48 := NB221_229.out
                  have hnc48 := NB229_221.out
                  have hcz49_0 : w38.cell? ⟨gb221, 0, none⟩ = some (.int .i64 t214) := (blk_cell BK221.out 0).trans rfl
                  have hcz49_1 : w38.cell? ⟨gb221, 1, none⟩ = some (.int .i64 t215) := (blk_cell BK221.out 1).trans rfl
                  have hcz49_2 : w38.cell? ⟨gb221, 2, none⟩ = some (.int .i64 t216) := (blk_cell BK221.out 2).trans rfl
                  have hcz49_3 : w38.cell? ⟨gb221, 3, none⟩ = some (.slice Ao9 t217.length co9) := (blk_cell BK221.out 3).trans rfl
                  have hfz49_0 := blk_frozen BK221.out 0; have hfz49_1 := blk_frozen BK221.out 1; have hfz49_2 := blk_frozen BK221.out 2; have hfz49_3 := blk_frozen BK221.out 3
                  go_wp2_with (first | ((with_reducible refine gate_callee (f := 6) rfl ?_); refine goesL_ (some 51) rfl rfl Tryd.func6 (by kernel_rfl) rfl #[.agg #[.int .i64 t234, .int .i64 t235, .int .i64 t236, .slice Ao42 t237.length co42], .agg #[.int .i64 t214, .int .i64 t215, .int .i64 t216, .slice Ao9 t217.length co9]] rfl sqM ?_; (with_reducible refine (laws_eqMatrix.calls kj4 t234 t235 t236 _ _ t237 t214 t215 t216 _ _ t217 true _ ?side1 ?side2 ?side3 ?side4 A43.out).mono ?_); (case side1 => refine (Kd.R_reads' (e := 3) (base := w.heap.size) (ok := fun k_ => ((True ∧ some k_ ≠ (.slice Ao9 t217.length co9 : Value).ownBlock) ∧ some k_ ≠ (.slice Ao14 t225.length co14 : Value).ownBlock)) (n := t237.length) (c := co42) ?_).2.2; exact (by refine sqR ?_; exact (Kd.R_mono (Kd.R_far (p := ⟨gb241, 3, none⟩) (Kd.R_far (p := ⟨gb241, 2, none⟩) (Kd.R_far (p := ⟨gb241, 1, none⟩) (Kd.R_far (p := ⟨gb241, 0, none⟩) (Kd.R_types HO239.out BK241.out (by decide)) (fun _ hk => hk.2) (.int .i64 t234)) (fun _ hk => hk.2) (.int .i64 t235)) (fun _ hk => hk.2) (.int .i64 t236)) (fun _ hk => hk.2) (.slice Ao42 t237.length co42)) (fun _ h_ => h_.1)))); (case side2 => exact (Kd.R_reads' HO239.out).2.1); (case side3 => refine (Kd.R_reads' (e := 3) (base := w.heap.size) (ok := fun k_ => (some k_ ≠ (.slice Ao14 t225.length co14 : Value).ownBlock ∧ some k_ ≠ (.slice Ao42 t237.length co42 : Value).ownBlock)) (n := t217.length) (c := co9) ?_).2.2; exact (by refine sqR ?_; exact (Kd.R_mono (Kd.R_far (p := ⟨gb241, 3, none⟩) (Kd.R_far (p := ⟨gb241, 2, none⟩) (Kd.R_far (p := ⟨gb241, 1, none⟩) (Kd.R_far (p := ⟨gb241, 0, none⟩) (Kd.R_types HO_222003.out BK241.out (by decide)) (fun _ hk => hk.2) (.int .i64 t234)) (fun _ hk => hk.2) (.int .i64 t235)) (fun _ hk => hk.2) (.int .i64 t236)) (fun _ hk => hk.2) (.slice Ao42 t237.length co42)) (fun _ h_ => h_.1)))); (case side4 => exact (Kd.R_reads' HO_222003.out).2.1); rintro e w50 ⟨rfl, hb⟩; refine ⟨_, rfl, ?_⟩; have n0_ := Aside0.mk (Kd.R_below (by refine sqR ?_; exact (Kd.R_mono (Kd.R_far (p := ⟨gb241, 3, none⟩) (Kd.R_far (p := ⟨gb241, 2, none⟩) (Kd.R_far (p := ⟨gb241, 1, none⟩) (Kd.R_far (p := ⟨gb241, 0, none⟩) (Kd.R_types HO_222003.out BK241.out (by decide)) (fun _ hk => hk.2) (.int .i64 t234)) (fun _ hk => hk.2) (.int .i64 t235)) (fun _ hk => hk.2) (.int .i64 t236)) (fun _ hk => hk.2) (.slice Ao42 t237.length co42)) (fun _ h_ => h_.1))) hb); have n1_ := Aside0.mk (Kd.R_below (by refine sqR ?_; exact (Kd.R_mono (Kd.R_far (p := ⟨gb241, 3, none⟩) (Kd.R_far (p := ⟨gb241, 2, none⟩) (Kd.R_far (p := ⟨gb241, 1, none⟩) (Kd.R_far (p := ⟨gb241, 0, none⟩) (Kd.R_types HO_230003.out BK241.out (by decide)) (fun _ hk => hk.2) (.int .i64 t234)) (fun _ hk => hk.2) (.int .i64 t235)) (fun _ hk => hk.2) (.int .i64 t236)) (fun _ hk => hk.2) (.slice Ao42 t237.length co42)) (fun _ h_ => h_.1))) hb); have n2_ := Aside0.mk (Kd.R_below (by refine sqR ?_; exact (Kd.R_mono (Kd.R_far (p := ⟨gb241, 3, none⟩) (Kd.R_far (p := ⟨gb241, 2, none⟩) (Kd.R_far (p := ⟨gb241, 1, none⟩) (Kd.R_far (p := ⟨gb241, 0, none⟩) (Kd.R_types HO239.out BK241.out (by decide)) (fun _ hk => hk.2) (.int .i64 t234)) (fun _ hk => hk.2) (.int .i64 t235)) (fun _ hk => hk.2) (.int .i64 t236)) (fun _ hk => hk.2) (.slice Ao42 t237.length co42)) (fun _ h_ => h_.1))) hb); have n3_ := Aside0.mk (blk_below (g := gb221) (o := .cells #[.int .i64 t214, .int .i64 t215, .int .i64 t216, .slice Ao9 t217.length co9] 24 (0, 0)) (by refine sqK ?_; refine blk_far ?_ NB221_241.out _; refine sqK ?_; refine blk_far ?_ NB221_241.out _; refine sqK ?_; refine blk_far ?_ NB221_241.out _; refine sqK ?_; refine blk_far ?_ NB221_241.out _; refine sqK ?_; exact BK221.out) hb); have n4_ := Aside0.mk (blk_below (g := gb229) (o := .cells #[.int .i64 t222, .int .i64 t223, .int .i64 t224, .slice Ao14 t225.length co14] 24 (0, 0)) (by refine sqK ?_; refine blk_far ?_ NB229_241.out _; refine sqK ?_; refine blk_far ?_ NB229_241.out _; refine sqK ?_; refine blk_far ?_ NB229_241.out _; refine sqK ?_; refine blk_far ?_ NB229_241.out _; refine sqK ?_; exact BK229.out) hb); have n5_ := Aside0.mk (blk_below (g := gb241) (o := .cells #[.int .i64 t234, .int .i64 t235, .int .i64 t236, .slice Ao42 t237.length co42] 24 (0, 0)) (by refine sqK ?_; refine blk_put (cs := #[.int .i64 t234, .int .i64 t235, .int .i64 t236, .slice none 0 0]) ?_ 3 _ rfl; refine sqK ?_; refine blk_put (cs := #[.int .i64 t234, .int .i64 t235, .int .i64 0, .slice none 0 0]) ?_ 2 _ rfl; refine sqK ?_; refine blk_put (cs := #[.int .i64 t234, .int .i64 0, .int .i64 0, .slice none 0 0]) ?_ 1 _ rfl; refine sqK ?_; refine blk_put (cs := #[.int .i64 0, .int .i64 0, .int .i64 0, .slice none 0 0]) ?_ 0 _ rfl; refine sqK ?_; exact BK241.out) hb); have n6_ := Aside0.mk (below_step sqB hb); clear HO_222003; clear HO_230003; clear HO239; clear BK221; clear BK229; clear BK241; clear HB; have HO_222003 := n0_; have HO_230003 := n1_; have HO239 := n2_; have BK221 := n3_; have BK229 := n4_; have BK241 := n5_; have HB := n6_; clear n0_ n1_ n2_ n3_ n4_ n5_ n6_; (try clear hb); (try clear hb2); (try clear hk); (try clear hi)))
                  go_meet
                  case rel => exact ⟨_, ((t240 != t220)), (sqD), H', ⟨by have := HJ4.out; first | omega | exact Nat.le_refl _⟩, ⟨sqR HO_222003.out⟩, ⟨sqR HO_230003.out⟩, ⟨by refine sqR ?_; exact Kd.R_mono HO239.out (fun _ hk => by first | exact ⟨hk.1.2, hk.2⟩ | (refine ⟨?_, ?_⟩ <;> intro e_ <;> simp only [e_, ne_eq, not_true_eq_false, and_false, false_and] at hk))⟩, ⟨sqK BK221.out⟩, ⟨sqK BK229.out⟩, ⟨sqK BK241.out⟩, ⟨sqB⟩⟩
                · replace c44 := Bool.eq_false_iff.mpr c44
                  subst c44
                  have H1 : (laws_FnExactParseMatrix.j1 kj4 t231 true t222 t223 t224 t232) = some r := by rw [if_neg (show ¬ (false = true) by decide)] at H; exact H
                  clear H
                  have H := H1
                  clear H1
                  have H' := Aside0.mk H
                  clear H
                  have hnb51 := NB241_221.out
                  have hnc51 := NB221_241.out
                  have hnb52 := NB241_229.out
                  have hnc52 := NB229_241.out
                  have hcz53_0 : w38.cell? ⟨gb241, 0, none⟩ = some (.int .i64 0) := (blk_cell BK241.out 0).trans rfl
                  have hcz53_1 : w38.cell? ⟨gb241, 1, none⟩ = some (.int .i64 0) := (blk_cell BK241.out 1).trans rfl
                  have hcz53_2 : w38.cell? ⟨gb241, 2, none⟩ = some (.int .i64 0) := (blk_cell BK241.out 2).trans rfl
                  have hcz53_3 : w38.cell? ⟨gb241, 3, none⟩ = some (.slice none 0 0) := (blk_cell BK241.out 3).trans rfl
                  have hfz53_0 := blk_frozen BK241.out 0; have hfz53_1 := blk_frozen BK241.out 1; have hfz53_2 := blk_frozen BK241.out 2; have hfz53_3 := blk_frozen BK241.out 3
                  have hnb54 := NB221_229.out
                  have hnc54 := NB229_221.out
                  have hcz55_0 : w38.cell? ⟨gb221, 0, none⟩ = some (.int .i64 t214) := (blk_cell BK221.out 0).trans rfl
                  have hcz55_1 : w38.cell? ⟨gb221, 1, none⟩ = some (.int .i64 t215) := (blk_cell BK221.out 1).trans rfl
                  have hcz55_2 : w38.cell? ⟨gb221, 2, none⟩ = some (.int .i64 t216) := (blk_cell BK221.out 2).trans rfl
                  have hcz55_3 : w38.cell? ⟨gb221, 3, none⟩ = some (.slice Ao9 t217.length co9) := (blk_cell BK221.out 3).trans rfl
                  have hfz55_0 := blk_frozen BK221.out 0; have hfz55_1 := blk_frozen BK221.out 1; have hfz55_2 := blk_frozen BK221.out 2; have hfz55_3 := blk_frozen BK221.out 3
                  go_wp2_with (first | ((with_reducible refine gate_callee (f := 6) rfl ?_); refine goesL_ (some 51) rfl rfl Tryd.func6 (by kernel_rfl) rfl #[.agg #[.int .i64 t234, .int .i64 t235, .int .i64 t236, .slice Ao42 t237.length co42], .agg #[.int .i64 t214, .int .i64 t215, .int .i64 t216, .slice Ao9 t217.length co9]] rfl sqM ?_; (with_reducible refine (laws_eqMatrix.calls kj4 t234 t235 t236 _ _ t237 t214 t215 t216 _ _ t217 false _ ?side1 ?side2 ?side3 ?side4 A43.out).mono ?_); (case side1 => refine (Kd.R_reads' (e := 3) (base := w.heap.size) (ok := fun k_ => ((True ∧ some k_ ≠ (.slice Ao9 t217.length co9 : Value).ownBlock) ∧ some k_ ≠ (.slice Ao14 t225.length co14 : Value).ownBlock)) (n := t237.length) (c := co42) ?_).2.2; exact (by refine sqR ?_; exact (Kd.R_mono (Kd.R_far (p := ⟨gb241, 3, none⟩) (Kd.R_far (p := ⟨gb241, 2, none⟩) (Kd.R_far (p := ⟨gb241, 1, none⟩) (Kd.R_far (p := ⟨gb241, 0, none⟩) (Kd.R_types HO239.out BK241.out (by decide)) (fun _ hk => hk.2) (.int .i64 t234)) (fun _ hk => hk.2) (.int .i64 t235)) (fun _ hk => hk.2) (.int .i64 t236)) (fun _ hk => hk.2) (.slice Ao42 t237.length co42)) (fun _ h_ => h_.1)))); (case side2 => exact (Kd.R_reads' HO239.out).2.1); (case side3 => refine (Kd.R_reads' (e := 3) (base := w.heap.size) (ok := fun k_ => (some k_ ≠ (.slice Ao14 t225.length co14 : Value).ownBlock ∧ some k_ ≠ (.slice Ao42 t237.length co42 : Value).ownBlock)) (n := t217.length) (c := co9) ?_).2.2; exact (by refine sqR ?_; exact (Kd.R_mono (Kd.R_far (p := ⟨gb241, 3, none⟩) (Kd.R_far (p := ⟨gb241, 2, none⟩) (Kd.R_far (p := ⟨gb241, 1, none⟩) (Kd.R_far (p := ⟨gb241, 0, none⟩) (Kd.R_types HO_222003.out BK241.out (by decide)) (fun _ hk => hk.2) (.int .i64 t234)) (fun _ hk => hk.2) (.int .i64 t235)) (fun _ hk => hk.2) (.int .i64 t236)) (fun _ hk => hk.2) (.slice Ao42 t237.length co42)) (fun _ h_ => h_.1)))); (case side4 => exact (Kd.R_reads' HO_222003.out).2.1); rintro e w56 ⟨rfl, hb⟩; refine ⟨_, rfl, ?_⟩; have n0_ := Aside0.mk (Kd.R_below (by refine sqR ?_; exact (Kd.R_mono (Kd.R_far (p := ⟨gb241, 3, none⟩) (Kd.R_far (p := ⟨gb241, 2, none⟩) (Kd.R_far (p := ⟨gb241, 1, none⟩) (Kd.R_far (p := ⟨gb241, 0, none⟩) (Kd.R_types HO_222003.out BK241.out (by decide)) (fun _ hk => hk.2) (.int .i64 t234)) (fun _ hk => hk.2) (.int .i64 t235)) (fun _ hk => hk.2) (.int .i64 t236)) (fun _ hk => hk.2) (.slice Ao42 t237.length co42)) (fun _ h_ => h_.1))) hb); have n1_ := Aside0.mk (Kd.R_below (by refine sqR ?_; exact (Kd.R_mono (Kd.R_far (p := ⟨gb241, 3, none⟩) (Kd.R_far (p := ⟨gb241, 2, none⟩) (Kd.R_far (p := ⟨gb241, 1, none⟩) (Kd.R_far (p := ⟨gb241, 0, none⟩) (Kd.R_types HO_230003.out BK241.out (by decide)) (fun _ hk => hk.2) (.int .i64 t234)) (fun _ hk => hk.2) (.int .i64 t235)) (fun _ hk => hk.2) (.int .i64 t236)) (fun _ hk => hk.2) (.slice Ao42 t237.length co42)) (fun _ h_ => h_.1))) hb); have n2_ := Aside0.mk (Kd.R_below (by refine sqR ?_; exact (Kd.R_mono (Kd.R_far (p := ⟨gb241, 3, none⟩) (Kd.R_far (p := ⟨gb241, 2, none⟩) (Kd.R_far (p := ⟨gb241, 1, none⟩) (Kd.R_far (p := ⟨gb241, 0, none⟩) (Kd.R_types HO239.out BK241.out (by decide)) (fun _ hk => hk.2) (.int .i64 t234)) (fun _ hk => hk.2) (.int .i64 t235)) (fun _ hk => hk.2) (.int .i64 t236)) (fun _ hk => hk.2) (.slice Ao42 t237.length co42)) (fun _ h_ => h_.1))) hb); have n3_ := Aside0.mk (blk_below (g := gb221) (o := .cells #[.int .i64 t214, .int .i64 t215, .int .i64 t216, .slice Ao9 t217.length co9] 24 (0, 0)) (by refine sqK ?_; refine blk_far ?_ NB221_241.out _; refine sqK ?_; refine blk_far ?_ NB221_241.out _; refine sqK ?_; refine blk_far ?_ NB221_241.out _; refine sqK ?_; refine blk_far ?_ NB221_241.out _; refine sqK ?_; exact BK221.out) hb); have n4_ := Aside0.mk (blk_below (g := gb229) (o := .cells #[.int .i64 t222, .int .i64 t223, .int .i64 t224, .slice Ao14 t225.length co14] 24 (0, 0)) (by refine sqK ?_; refine blk_far ?_ NB229_241.out _; refine sqK ?_; refine blk_far ?_ NB229_241.out _; refine sqK ?_; refine blk_far ?_ NB229_241.out _; refine sqK ?_; refine blk_far ?_ NB229_241.out _; refine sqK ?_; exact BK229.out) hb); have n5_ := Aside0.mk (blk_below (g := gb241) (o := .cells #[.int .i64 t234, .int .i64 t235, .int .i64 t236, .slice Ao42 t237.length co42] 24 (0, 0)) (by refine sqK ?_; refine blk_put (cs := #[.int .i64 t234, .int .i64 t235, .int .i64 t236, .slice none 0 0]) ?_ 3 _ rfl; refine sqK ?_; refine blk_put (cs := #[.int .i64 t234, .int .i64 t235, .int .i64 0, .slice none 0 0]) ?_ 2 _ rfl; refine sqK ?_; refine blk_put (cs := #[.int .i64 t234, .int .i64 0, .int .i64 0, .slice none 0 0]) ?_ 1 _ rfl; refine sqK ?_; refine blk_put (cs := #[.int .i64 0, .int .i64 0, .int .i64 0, .slice none 0 0]) ?_ 0 _ rfl; refine sqK ?_; exact BK241.out) hb); have n6_ := Aside0.mk (below_step sqB hb); clear HO_222003; clear HO_230003; clear HO239; clear BK221; clear BK229; clear BK241; clear HB; have HO_222003 := n0_; have HO_230003 := n1_; have HO239 := n2_; have BK221 := n3_; have BK229 := n4_; have BK241 := n5_; have HB := n6_; clear n0_ n1_ n2_ n3_ n4_ n5_ n6_; (try clear hb); (try clear hb2); (try clear hk); (try clear hi)))
                  go_meet
                  case rel => exact ⟨_, (true), (sqD), H', ⟨by have := HJ4.out; first | omega | exact Nat.le_refl _⟩, ⟨sqR HO_222003.out⟩, ⟨sqR HO_230003.out⟩, ⟨by refine sqR ?_; exact Kd.R_mono HO239.out (fun _ hk => by first | exact ⟨hk.1.2, hk.2⟩ | (refine ⟨?_, ?_⟩ <;> intro e_ <;> simp only [e_, ne_eq, not_true_eq_false, and_false, false_and] at hk))⟩, ⟨sqK BK221.out⟩, ⟨sqK BK229.out⟩, ⟨sqK BK241.out⟩, ⟨sqB⟩⟩
              case rest =>
                clear HC31
                try clear c1
                try clear c2
                try clear c2b0
                try clear c2b1
                try clear p2
                try clear c3
                try clear c4
                try clear c5
                try clear c6
                try clear c7
                try clear c8
                try clear c12
                try clear c16
                try clear c17
                try clear c21
                try clear c25
                try clear c28
                try clear c28b0
                try clear c29
                try clear c29b0
                try clear c29b1
                try clear c32
                try clear c39
                try clear c40
                try clear c44
                try clear c45
                try clear c46
                try clear c48
                try clear c51
                try clear c52
                try clear c54
                try clear hcz13_0
                try clear hcz13_1
                try clear hcz13_2
                try clear hcz13_3
                try clear hcz18_0
                try clear hcz18_1
                try clear hcz18_2
                try clear hcz18_3
                try clear hcz19_0
                try clear hcz19_1
                try clear hcz19_2
                try clear hcz19_3
                try clear hcz22_0
                try clear hcz22_1
                try clear hcz22_2
                try clear hcz22_3
                try clear hcz23_0
                try clear hcz23_1
                try clear hcz23_2
                try clear hcz23_3
                try clear hcz33_0
                try clear hcz33_1
                try clear hcz33_2
                try clear hcz33_3
                try clear hcz35_0
                try clear hcz35_1
                try clear hcz35_2
                try clear hcz35_3
                try clear hcz41_0
                try clear hcz41_1
                try clear hcz41_2
                try clear hcz41_3
                try clear hcz47_0
                try clear hcz47_1
                try clear hcz47_2
                try clear hcz47_3
                try clear hcz49_0
                try clear hcz49_1
                try clear hcz49_2
                try clear hcz49_3
                try clear hcz53_0
                try clear hcz53_1
                try clear hcz53_2
                try clear hcz53_3
                try clear hcz55_0
                try clear hcz55_1
                try clear hcz55_2
                try clear hcz55_3
                try clear hcz8_0
                try clear hcz8_1
                try clear hcz8_2
                try clear hcz8_3
                try clear hfz13_0
                try clear hfz13_1
                try clear hfz13_2
                try clear hfz13_3
                try clear hfz18_0
                try clear hfz18_1
                try clear hfz18_2
                try clear hfz18_3
                try clear hfz19_0
                try clear hfz19_1
                try clear hfz19_2
                try clear hfz19_3
                try clear hfz22_0
                try clear hfz22_1
                try clear hfz22_2
                try clear hfz22_3
                try clear hfz23_0
                try clear hfz23_1
                try clear hfz23_2
                try clear hfz23_3
                try clear hfz33_0
                try clear hfz33_1
                try clear hfz33_2
                try clear hfz33_3
                try clear hfz35_0
                try clear hfz35_1
                try clear hfz35_2
                try clear hfz35_3
                try clear hfz41_0
                try clear hfz41_1
                try clear hfz41_2
                try clear hfz41_3
                try clear hfz47_0
                try clear hfz47_1
                try clear hfz47_2
                try clear hfz47_3
                try clear hfz49_0
                try clear hfz49_1
                try clear hfz49_2
                try clear hfz49_3
                try clear hfz53_0
                try clear hfz53_1
                try clear hfz53_2
                try clear hfz53_3
                try clear hfz55_0
                try clear hfz55_1
                try clear hfz55_2
                try clear hfz55_3
                try clear hfz8_0
                try clear hfz8_1
                try clear hfz8_2
                try clear hfz8_3
                try clear p2
                obtain ⟨kq, x57_30, rfl, HA, HJ30, HO_222003, HO_230003, HO_242003, BK221, BK229, BK241, HB⟩ := hcut
                have hl230003_30 := (Kd.R_reads' HO_230003.out).1
                rw [hl230003_30] at HO_230003
                (try simp only [hl230003_30])
                (try simp only [hl230003_30] at BK221)
                (try simp only [hl230003_30] at BK229)
                (try simp only [hl230003_30] at BK241)
                (try simp only [hl230003_30] at HO_222003)
                (try simp only [hl230003_30] at HO_242003)
                cases kq with
                | zero => exact absurd HA.out (by simp [laws_FnExactParseMatrix.j1])
                | succ kj30 =>
                  have H := HA.out
                  clear HA
                  simp only [laws_FnExactParseMatrix.j1] at H
                  by_cases c57 : x57_30 = true
                  · subst c57
                    have H1 : (none) = some r := by rw [if_pos rfl] at H; exact H
                    clear H
                    have H := H1
                    clear H1
                    exact absurd H (by simp)
                  · replace c57 := Bool.eq_false_iff.mpr c57
                    subst c57
                    have H1 : ((laws_heldMatrix.f kj30 t222 t223 t224 t232 1).bind fun t243 => (if t243 < 0 then (none) else (if t243 = t231 then (some true) else (none)))) = some r := by rw [if_neg (show ¬ (false = true) by decide)] at H; exact H
                    clear H
                    have H := H1
                    clear H1
                    replace H := Option.bind_eq_some_iff.mp H
                    obtain ⟨t243, A580, H⟩ := H
                    replace H : (if t243 < 0 then (none) else (if t243 = t231 then (some true) else (none))) = some r := H
                    have A58 := Aside0.mk A580
                    clear A580
                    by_cases c59 : t243 < 0
                    · rw [if_pos c59] at H
                      exact absurd H (by simp)
                    · rw [if_neg c59] at H
                      have c59b0 : decide (t243 < 0) = false := decide_eq_false c59
                      clear c59
                      by_cases c60 : t243 = t231
                      · rw [if_pos c60] at H
                        have c60b0 : (t243 == t231) = true := beq_iff_eq.mpr c60
                        have c60b1 : (t243 != t231) = false := bne_eq_false_iff_eq.mpr c60
                        clear c60
                        obtain rfl := Option.some.inj H
                        have hnb61 := NB229_221.out
                        have hnc61 := NB221_229.out
                        have hnb62 := NB229_241.out
                        have hnc62 := NB241_229.out
                        have hcz63_0 : wc.cell? ⟨gb229, 0, none⟩ = some (.int .i64 t222) := (blk_cell BK229.out 0).trans rfl
                        have hcz63_1 : wc.cell? ⟨gb229, 1, none⟩ = some (.int .i64 t223) := (blk_cell BK229.out 1).trans rfl
                        have hcz63_2 : wc.cell? ⟨gb229, 2, none⟩ = some (.int .i64 t224) := (blk_cell BK229.out 2).trans rfl
                        have hcz63_3 : wc.cell? ⟨gb229, 3, none⟩ = some (.slice Ao14 t232.length co14) := (blk_cell BK229.out 3).trans rfl
                        have hfz63_0 := blk_frozen BK229.out 0; have hfz63_1 := blk_frozen BK229.out 1; have hfz63_2 := blk_frozen BK229.out 2; have hfz63_3 := blk_frozen BK229.out 3
                        go_wp2_with (first | ((with_reducible refine gate_callee (f := 8) rfl ?_); refine goesL_ (some 60) rfl rfl Tryd.func8 (by kernel_rfl) rfl #[.agg #[.int .i64 t222, .int .i64 t223, .int .i64 t224, .slice Ao14 t232.length co14], .int .i64 1] rfl sqM ?_; (with_reducible refine (laws_heldMatrix.calls kj30 t222 t223 t224 _ _ t232 1 t243 _ ?side1 ?side2 A58.out).mono ?_); (case side1 => exact sqC (Kd.R_reads' HO_230003.out).2.2); (case side2 => exact (Kd.R_reads' HO_230003.out).2.1); rintro e w64 ⟨rfl, hb⟩; refine ⟨_, rfl, ?_⟩; have n0_ := Aside0.mk (Kd.R_below (sqR HO_222003.out) hb); have n1_ := Aside0.mk (Kd.R_below (sqR HO_230003.out) hb); have n2_ := Aside0.mk (Kd.R_below (sqR HO_242003.out) hb); have n3_ := Aside0.mk (blk_below (g := gb221) (o := .cells #[.int .i64 t214, .int .i64 t215, .int .i64 t216, .slice Ao9 t217.length co9] 24 (0, 0)) (sqK BK221.out) hb); have n4_ := Aside0.mk (blk_below (g := gb229) (o := .cells #[.int .i64 t222, .int .i64 t223, .int .i64 t224, .slice Ao14 t232.length co14] 24 (0, 0)) (sqK BK229.out) hb); have n5_ := Aside0.mk (blk_below (g := gb241) (o := .cells #[.int .i64 t234, .int .i64 t235, .int .i64 t236, .slice Ao42 t237.length co42] 24 (0, 0)) (sqK BK241.out) hb); have n6_ := Aside0.mk (below_step sqB hb); clear HO_222003; clear HO_230003; clear HO_242003; clear BK221; clear BK229; clear BK241; clear HB; have HO_222003 := n0_; have HO_230003 := n1_; have HO_242003 := n2_; have BK221 := n3_; have BK229 := n4_; have BK241 := n5_; have HB := n6_; clear n0_ n1_ n2_ n3_ n4_ n5_ n6_; (try clear hb); (try clear hb2); (try clear hk); (try clear hi)))
                        go_ret
                        exact ⟨sqE, sqB⟩
                      · rw [if_neg c60] at H
                        exact absurd H (by simp)
            · rw [if_neg c29] at H
              exact absurd H (by simp)

end Go.Proofs.YtjlbfbpjcmjdfaaDoor.F
end
section
namespace Go.Proofs.YtjlbfbpjcmjdfaaDoor.Mt
def sdiff (a b : Nat) : Nat := a ^^^ (a &&& b)
theorem bit_sdiff (a b i : Nat) : (sdiff a b).testBit i = (a.testBit i && !b.testBit i) := by
  simp [sdiff, Nat.testBit_xor, Nat.testBit_and]; cases a.testBit i <;> cases b.testBit i <;> rfl
def elems (s : Nat) : List Nat := (List.range 8).filter s.testBit
theorem mem_elems {s e : Nat} : e ∈ elems s ↔ e < 8 ∧ s.testBit e = true := by simp [elems]
end Go.Proofs.YtjlbfbpjcmjdfaaDoor.Mt
end
section
namespace Go.Proofs.YtjlbfbpjcmjdfaaDoor.Bits
open Go.Proofs.YtjlbfbpjcmjdfaaDoor.Mt (sdiff bit_sdiff)
open Go.RowKit Go.Proofs.YtjlbfbpjcmjdfaaDoorW.PrintWords Go.Proofs.YtjlbfbpjcmjdfaaDoorW.PrintLast Go.Proofs.YtjlbfbpjcmjdfaaDoorW.PrintMore

theorem wrap_in {n : Int} (h0 : -9223372036854775808 ≤ n) (h1 : n < 9223372036854775808) : wrap64 n = n := by unfold wrap64; omega
end Go.Proofs.YtjlbfbpjcmjdfaaDoor.Bits
end
section
namespace Go.Proofs.YtjlbfbpjcmjdfaaDoor.L
open Go.RowKit Go.Proofs.YtjlbfbpjcmjdfaaDoorW.PrintWords Go.Proofs.YtjlbfbpjcmjdfaaDoorW.PrintLast Go.Proofs.YtjlbfbpjcmjdfaaDoorW.PrintMore
open Go.Proofs.YtjlbfbpjcmjdfaaDoor.Bits

theorem Ev.succ {α : Type} {g : Nat → Option α} {r : α} (h : Ev (fun k => g (k + 1)) r) : Ev g r := Ev.step (fun _ => rfl) h
theorem Ev.some {α : Type} {r s : α} (h : r = s) : Ev (fun _ => Option.some r) s := h ▸ Ev.now r
theorem Ev.uniq {α : Type} {g : Nat → Option α} {r s : α} (h : Ev g r) (k : Ev g s) : r = s := by
  obtain ⟨a, h⟩ := h; obtain ⟨b, k⟩ := k
  have h1 := h (max a b) (Nat.le_max_left _ _); have h2 := k (max a b) (Nat.le_max_right _ _)
  exact Option.some.inj (h1.symm.trans h2)
theorem wrap_succ {i : Nat} (h : i < 9223372036854775807) : wrap64 ((i : Int) + 1) = ((i + 1 : Nat) : Int) := wrap_in (by omega) (by omega)

/-- A loop that asks of all places, and says no at the first that fails. -/
theorem loop_all (L : Nat → Int → Option Bool) (n : Nat) (p : Nat → Bool) (hend : ∀ k, L (k + 1) (n : Int) = some true)
    (hstep : ∀ i, i < n → ∀ k, L (k + 1) (i : Int) = if p i = true then L k ((i + 1 : Nat) : Int) else some false) :
    ∀ d i, i + d = n → Ev (fun k => L k (i : Int)) ((List.range' i d).all p)
  | 0, i, hd => by
    obtain rfl : i = n := by omega
    refine Ev.succ ?_
    simp only [hend]; exact Ev.now _
  | d + 1, i, hd => by
    refine Ev.succ ?_
    rw [List.range'_succ, List.all_cons]
    simp only [hstep i (by omega)]
    cases hp : p i
    · simp only [Bool.false_eq_true, if_false, Bool.false_and]; exact Ev.now _
    · simp only [if_true, Bool.true_and]; exact loop_all L n p hend hstep d (i + 1) (by omega)
theorem loop_all0 (L : Nat → Int → Option Bool) (n : Nat) (p : Nat → Bool) (hend : ∀ k, L (k + 1) (n : Int) = some true)
    (hstep : ∀ i, i < n → ∀ k, L (k + 1) (i : Int) = if p i = true then L k ((i + 1 : Nat) : Int) else some false) :
    Ev (fun k => L k 0) ((List.range n).all p) := by
  rw [List.range_eq_range']; exact loop_all L n p hend hstep n 0 (by omega)
/-- A loop that gathers: at each place the state takes a step; an invariant goes along. -/
theorem loop_fold {σ ρ : Type} (L : Nat → σ → Int → Option ρ) (n : Nat) (step : σ → Nat → σ) (inv : Nat → σ → Prop) (fin : σ → ρ)
    (hend : ∀ s, inv n s → Ev (fun k => L (k + 1) s (n : Int)) (fin s))
    (hstep : ∀ i s, i < n → inv i s → inv (i + 1) (step s i) ∧ ∀ r, Ev (fun k => L k (step s i) ((i + 1 : Nat) : Int)) r → Ev (fun k => L (k + 1) s (i : Int)) r) :
    ∀ d i s, i + d = n → inv i s → Ev (fun k => L k s (i : Int)) (fin ((List.range' i d).foldl step s))
  | 0, i, s, hd, hi => by
    obtain rfl : i = n := by omega
    exact Ev.succ (hend s hi)
  | d + 1, i, s, hd, hi => by
    refine Ev.succ ?_
    obtain ⟨h1, h2⟩ := hstep i s (by omega) hi
    exact h2 _ (loop_fold L n step inv fin hend hstep d (i + 1) (step s i) (by omega) h1)
theorem loop_fold0 {σ ρ : Type} (L : Nat → σ → Int → Option ρ) (n : Nat) (step : σ → Nat → σ) (inv : Nat → σ → Prop) (fin : σ → ρ)
    (hend : ∀ s, inv n s → Ev (fun k => L (k + 1) s (n : Int)) (fin s))
    (hstep : ∀ i s, i < n → inv i s → inv (i + 1) (step s i) ∧ ∀ r, Ev (fun k => L k (step s i) ((i + 1 : Nat) : Int)) r → Ev (fun k => L (k + 1) s (i : Int)) r) (s : σ) (h : inv 0 s) :
    Ev (fun k => L k s 0) (fin ((List.range n).foldl step s)) := by
  rw [List.range_eq_range']; exact loop_fold L n step inv fin hend hstep n 0 s (by omega) h

/-- A loop that gathers, and what stands behind it. -/
theorem loop_reach {σ ρ : Type} (L : Nat → σ → Int → Option ρ) (n : Nat) (step : σ → Nat → σ) (inv : Nat → σ → Prop)
    (hstep : ∀ i s, i < n → inv i s → inv (i + 1) (step s i) ∧ ∀ r, Ev (fun k => L k (step s i) ((i + 1 : Nat) : Int)) r → Ev (fun k => L (k + 1) s (i : Int)) r) (s : σ) (h : inv 0 s) :
    inv n ((List.range n).foldl step s) ∧ ∀ r, Ev (fun k => L k ((List.range n).foldl step s) (n : Int)) r → Ev (fun k => L k s 0) r := by
  have key : ∀ d i s, i + d = n → inv i s → inv n ((List.range' i d).foldl step s) ∧ ∀ r, Ev (fun k => L k ((List.range' i d).foldl step s) (n : Int)) r → Ev (fun k => L k s (i : Int)) r := by
    intro d
    induction d with
    | zero => intro i s hd hi; obtain rfl : i = n := by omega
              exact ⟨hi, fun r h => h⟩
    | succ d ih =>
      intro i s hd hi
      obtain ⟨h1, h2⟩ := hstep i s (by omega) hi
      obtain ⟨h3, h4⟩ := ih (i + 1) (step s i) (by omega) h1
      rw [List.range'_succ, List.foldl_cons]
      exact ⟨h3, fun r h => Ev.succ (h2 r (h4 r h))⟩
  rw [List.range_eq_range']
  exact key n 0 s (by omega) h
theorem rd_getD (l : List Int) (j : Nat) : rd l (j : Int) = l.getD j 0 := by simp [rd]
theorem range_all_get {α : Type} (l : List α) (d : α) (p : α → Bool) : (List.range l.length).all (fun i => p (l.getD i d)) = l.all p := by
  rw [Bool.eq_iff_iff, List.all_eq_true, List.all_eq_true]
  constructor
  · intro h x hx
    obtain ⟨i, hi, rfl⟩ := List.getElem_of_mem hx
    have := h i (by simpa using hi)
    simpa [List.getElem?_eq_getElem hi] using this
  · intro h i hi
    have hi : i < l.length := by simpa using hi
    have := h l[i] (List.getElem_mem hi)
    simpa [List.getElem?_eq_getElem hi] using this
end Go.Proofs.YtjlbfbpjcmjdfaaDoor.L
end
section
namespace Go.Proofs.YtjlbfbpjcmjdfaaDoor.L
open Go.RowKit Go.Proofs.YtjlbfbpjcmjdfaaDoor.F Go.Proofs.YtjlbfbpjcmjdfaaDoorW.PrintWords Go.Proofs.YtjlbfbpjcmjdfaaDoorW.PrintLast Go.Proofs.YtjlbfbpjcmjdfaaDoorW.PrintMore
open Go.Proofs.YtjlbfbpjcmjdfaaDoor.Bits

theorem all_eq_range (l l' : List Int) (h : l.length = l'.length) : (List.range l.length).all (fun i => decide (l.getD i 0 = l'.getD i 0)) = decide (l = l') := by
  rw [Bool.eq_iff_iff, List.all_eq_true, decide_eq_true_iff]
  constructor
  · intro hh
    apply List.ext_getElem h
    intro i h1 h2
    have := hh i (by simpa using h1)
    simpa [List.getElem?_eq_getElem h1, List.getElem?_eq_getElem h2] using this
  · rintro rfl i _
    simp

theorem eqIntS (l l' : List Int) (h : l.length ≤ 17592186044416) : Ev (fun k => laws_eqIntS.f k l l') (decide (l = l')) := by
  unfold laws_eqIntS.f
  by_cases e : l.length = l'.length
  · simp only [show ((l.length : Int) = (l'.length : Int)) by omega, if_true]
    rw [← all_eq_range l l' e]
    refine loop_all0 _ _ _ (fun k => by simp only [laws_eqIntS.l0, show ¬ ((l.length : Int) < (l.length : Int)) by omega, if_false]) ?_
    intro i hi k
    simp only [laws_eqIntS.l0, show ((i : Int) < (l.length : Int)) by omega, show ((i : Int) < (l'.length : Int)) by omega, show (0 : Int) ≤ (i : Int) by omega, if_true, rd_getD, wrap_succ (show i < 9223372036854775807 by omega), decide_eq_true_eq]
  · simp only [show ¬ ((l.length : Int) = (l'.length : Int)) by omega, if_false]
    rw [show decide (l = l') = false by simp; rintro rfl; exact e rfl]
    exact Ev.now _

end Go.Proofs.YtjlbfbpjcmjdfaaDoor.L
end
section
namespace Go.Proofs.YtjlbfbpjcmjdfaaDoor.L
open Go.RowKit Go.Proofs.YtjlbfbpjcmjdfaaDoor.F Go.Proofs.YtjlbfbpjcmjdfaaDoorW.PrintWords Go.Proofs.YtjlbfbpjcmjdfaaDoorW.PrintLast Go.Proofs.YtjlbfbpjcmjdfaaDoorW.PrintMore
open Go.Proofs.YtjlbfbpjcmjdfaaDoor.Bits
set_option linter.unusedSimpArgs false
set_option linter.unusedVariables false
def mk (l : List UInt8) : ByteArray := ⟨l.toArray⟩
def pre (a : List UInt8) : List (List UInt8) → List (List UInt8)
  | [] => [a]
  | w :: r => (a ++ w) :: r
def wl (c : UInt8) : List UInt8 → List (List UInt8)
  | [] => [[]]
  | b :: l => if b = c then [] :: wl c l else pre [b] (wl c l)
def words (c : UInt8) (t : ByteArray) : List ByteArray := (wl c t.data.toList).map mk
theorem pre_pre (a b : List UInt8) (ws : List (List UInt8)) (h : ws ≠ []) : pre a (pre b ws) = pre (a ++ b) ws := by
  cases ws with
  | nil => exact absurd rfl h
  | cons w r => simp [pre]
theorem pre_ne (a : List UInt8) (ws : List (List UInt8)) : pre a ws ≠ [] := by cases ws <;> simp [pre]
theorem wl_ne (c : UInt8) : ∀ l, wl c l ≠ []
  | [] => by simp [wl]
  | b :: l => by
    rw [wl]
    split
    · simp
    · exact pre_ne _ _
theorem pre_nil (ws : List (List UInt8)) (h : ws ≠ []) : pre [] ws = ws := by
  cases ws with
  | nil => exact absurd rfl h
  | cons w r => simp [pre]
theorem wl_app (c : UInt8) : ∀ (a r : List UInt8), c ∉ a → wl c (a ++ c :: r) = a :: wl c r
  | [], r, _ => by rw [List.nil_append, wl, if_pos rfl]
  | b :: a, r, h => by
    have h1 : b ≠ c := fun e => h (by simp [e])
    have h2 : c ∉ a := fun e => h (by simp [e])
    rw [List.cons_append, wl, if_neg h1, wl_app c a r h2]
    simp [pre]
theorem wl_one (c : UInt8) : ∀ (a : List UInt8), c ∉ a → wl c a = [a]
  | [], _ => rfl
  | b :: a, h => by
    have h1 : b ≠ c := fun e => h (by simp [e])
    have h2 : c ∉ a := fun e => h (by simp [e])
    rw [wl, if_neg h1, wl_one c a h2]
    simp [pre]
def total (ws : List (List UInt8)) : Nat := (ws.map List.length).sum
theorem total_cons (w : List UInt8) (ws : List (List UInt8)) : total (w :: ws) = w.length + total ws := by simp [total]
theorem wl_total (c : UInt8) : ∀ l, total (wl c l) + (wl c l).length = l.length + 1
  | [] => rfl
  | b :: l => by
    have ih := wl_total c l
    rw [wl]
    split
    · rw [total_cons, List.length_cons, List.length_cons, List.length_nil]; omega
    · cases h : wl c l with
      | nil => exact absurd h (wl_ne c l)
      | cons w r =>
        rw [h, total_cons, List.length_cons] at ih
        rw [pre, total_cons, List.length_cons, List.length_append, List.length_cons, List.length_cons, List.length_nil]; omega
theorem total_mem {w : List UInt8} : ∀ {ws : List (List UInt8)}, w ∈ ws → w.length ≤ total ws
  | [], h => by cases h
  | x :: ws, h => by
    rw [total_cons]
    rcases List.mem_cons.1 h with rfl | h
    · omega
    · have := total_mem h; omega
theorem splitK_wl (c : UInt8) : ∀ s, Lib.splitK [c] 0 (Lib.count s [c]) s = wl c s
  | [] => by rw [Lib.count_miss (by simp [Lib.index])]; rfl
  | b :: l => by
    have ih := splitK_wl c l
    by_cases h : b = c
    · subst h
      have hix : Lib.index (b :: l) [b] = ((0 : Nat) : Int) := by rw [Lib.index]; simp [List.isPrefixOf]
      rw [Lib.count_cons_eq, Nat.add_comm, Lib.splitK, wl, if_pos rfl, hix, ← ih]
      rfl
    · rw [Lib.count_cons_ne b c l h, wl, if_neg h, ← ih]
      cases hk : Lib.count l [c] with
      | zero => rfl
      | succ k =>
        have hm : Lib.index l [c] ≠ -1 := fun e => by rw [Lib.count_miss e] at hk; cases hk
        have hge := Lib.index_ge l [c]
        obtain ⟨j, hj⟩ : ∃ j : Nat, Lib.index l [c] = j := ⟨(Lib.index l [c]).toNat, by omega⟩
        have hp : ([c] : List UInt8).isPrefixOf (b :: l) = false := by simp [List.isPrefixOf, Ne.symm h]
        have hix : Lib.index (b :: l) [c] = ((j + 1 : Nat) : Int) := by
          rw [Lib.index, hp]
          simp only [Bool.false_eq_true, if_false]
          rw [if_neg (fun e => hm (beq_iff_eq.1 e)), hj]; omega
        rw [Lib.splitK, Lib.splitK, hix, hj, if_neg (fun e => by have := beq_iff_eq.1 e; omega), if_neg (fun e => by have := beq_iff_eq.1 e; omega)]
        simp only [Int.toNat_natCast, Nat.add_zero, List.length_cons, List.length_nil, Nat.zero_add]
        rw [pre, List.take_succ_cons, show j + 1 + 1 = (j + 1) + 1 from rfl, List.drop_succ_cons]
        rfl
theorem nums_one (c : UInt8) : strOfNums [(c.toNat : Int)] = ⟨#[c]⟩ := Lib.Lz.strOfNums_map [c]
theorem map_mk : ∀ l : List ByteArray, (l.map (fun a => a.data.toList)).map mk = l
  | [] => rfl
  | a :: l => by rw [List.map_cons, List.map_cons, map_mk l]; congr 1
theorem Split_i (t : ByteArray) (c : UInt8) (h : t.size ≤ 1048576) : impl_SplitByte.f t (c.toNat : Int) = some (words c t) := by
  have hs : splitOf t (c.toNat : Int) = words c t := by
    unfold splitOf words
    rw [nums_one, ← splitK_wl, ← map_mk (Lib.splitB _ _ _ _), Lib.splitB_data]
  have hl := Lib.splitB_all (⟨#[c]⟩ : ByteArray) (Nat.le_refl _) 0 _ t rfl
  have hn := Lib.countB_le (⟨#[c]⟩ : ByteArray) (Nat.le_refl _) _ t (Nat.le_refl _)
  unfold impl_SplitByte.f
  rw [if_pos ?_, hs]
  rw [show splitOf t (c.toNat : Int) = Lib.splitB (⟨#[c]⟩ : ByteArray) 0 (Lib.countB t (⟨#[c]⟩ : ByteArray)) t by unfold splitOf; rw [nums_one], nums_one]
  exact ⟨by omega, Nat.le_refl _, hl, by omega⟩
theorem bt_get (t : ByteArray) (i : Nat) (h : i < t.data.toList.length) : bt t (i : Int) = ((t.data.toList[i]'h).toNat : Int) := by
  unfold bt
  have h1 : (i : Int).toNat < t.size := by rw [Int.toNat_natCast]; exact h
  rw [dif_pos h1]
  rfl
theorem Split_s (t : ByteArray) (c : UInt8) (h : t.size ≤ 1048576) : Ev (fun k => spec_SplitByte.f k t (c.toNat : Int)) (words c t) := by
  have hz : t.data.toList.length = t.size := rfl
  have key : ∀ d i frm : Nat, ∀ out : List ByteArray, i + d = t.size → frm ≤ i → out.length ≤ i → Ev (fun k => spec_SplitByte.l0 k t (c.toNat : Int) out (frm : Int) (i : Int)) (out ++ (pre ((t.data.toList.drop frm).take (i - frm)) (wl c (t.data.toList.drop i))).map mk) := by
    intro d
    induction d with
    | zero =>
      intro i frm out hd hf ho
      refine Ev.succ ?_
      simp only [spec_SplitByte.l0, show ((i : Int) ≤ (t.size : Int)) by omega, show ((i : Int) = (t.size : Int)) by omega, show ((0 : Int) ≤ (frm : Int)) by omega, show ((frm : Int) ≤ (i : Int)) by omega, show out.length < 8796093022208 by omega, if_true, Int.toNat_natCast, show ((frm : Int) ≤ (t.size : Int)) by omega, show ((t.size : Int) ≤ (t.size : Int)) by omega]
      rw [wrap_in (show -9223372036854775808 ≤ (t.size : Int) + 1 by omega) (by omega)]
      refine Ev.succ ?_
      simp only [spec_SplitByte.l0, show ¬ ((t.size : Int) + 1 ≤ (t.size : Int)) by omega, if_false]
      refine Ev.some ?_
      rw [show t.data.toList.drop i = [] from List.drop_eq_nil_of_le (by omega), wl, pre, List.append_nil, Lib.extract_eq, show i = t.size by omega]
      rfl
    | succ d ih =>
      intro i frm out hd hf ho
      have hi : i < t.data.toList.length := by omega
      refine Ev.succ ?_
      simp only [spec_SplitByte.l0, show ((i : Int) ≤ (t.size : Int)) by omega, show ¬ ((i : Int) = (t.size : Int)) by omega, show ((0 : Int) ≤ (frm : Int)) by omega, show ((0 : Int) ≤ (i : Int)) by omega, show ((i : Int) < (t.size : Int)) by omega, show ((frm : Int) ≤ (i : Int)) by omega, show out.length < 8796093022208 by omega, if_true, if_false, Int.toNat_natCast, bt_get t i hi, wrap_succ (show i < 9223372036854775807 by omega)]
      rw [List.drop_eq_getElem_cons hi, wl]
      by_cases hc : t.data.toList[i] = c
      · rw [if_pos hc]
        have e : ((t.data.toList[i]).toNat : Int) = (c.toNat : Int) := by rw [hc]
        simp only [e, if_true]
        have := ih (i + 1) (i + 1) (out ++ [t.extract frm i]) (by omega) (Nat.le_refl _) (by rw [List.length_append, List.length_cons, List.length_nil]; omega)
        rw [Nat.sub_self, List.take_zero, pre_nil _ (wl_ne _ _), List.append_assoc, Lib.extract_eq] at this
        rw [pre, List.append_nil, List.map_cons]
        rw [Lib.extract_eq]
        exact this
      · rw [if_neg hc]
        have e : ¬ ((t.data.toList[i]).toNat : Int) = (c.toNat : Int) := fun e => hc (UInt8.toNat_inj.1 (by omega))
        simp only [e, if_false]
        have := ih (i + 1) frm out (by omega) (by omega) (by omega)
        rw [pre_pre _ _ _ (wl_ne _ _)]
        have ht : (t.data.toList.drop frm).take (i + 1 - frm) = (t.data.toList.drop frm).take (i - frm) ++ [t.data.toList[i]] := by
          rw [show i + 1 - frm = (i - frm) + 1 by omega, List.take_add_one, List.getElem?_drop, show frm + (i - frm) = i by omega, List.getElem?_eq_getElem hi]
          rfl
        rw [← ht]
        exact this
  have := key t.size 0 0 [] (by omega) (Nat.le_refl _) (Nat.le_refl _)
  rw [Nat.sub_self, List.take_zero, List.drop_zero, pre_nil _ (wl_ne _ _), List.nil_append] at this
  exact this
end Go.Proofs.YtjlbfbpjcmjdfaaDoor.L
end
section
namespace Go.Proofs.YtjlbfbpjcmjdfaaDoor.L
open Go.RowKit Go.Proofs.YtjlbfbpjcmjdfaaDoor.F Go.Proofs.YtjlbfbpjcmjdfaaDoorW.PrintWords Go.Proofs.YtjlbfbpjcmjdfaaDoorW.PrintLast Go.Proofs.YtjlbfbpjcmjdfaaDoorW.PrintMore
open Go.Proofs.YtjlbfbpjcmjdfaaDoor.Bits
open Go.Proofs.YtjlbfbpjcmjdfaaDoor.Mt (sdiff bit_sdiff elems mem_elems)

theorem l1In (x a b : Int) : spec_l1In.f x a b = some (decide (a ≤ x ∧ x ≤ b)) := by
  unfold spec_l1In.f
  split <;> simp <;> omega

theorem isSize_i (n : Int) : impl_isSize.f n = some (decide (0 ≤ n ∧ n ≤ 8)) := by
  unfold impl_isSize.f
  split <;> simp <;> omega
end Go.Proofs.YtjlbfbpjcmjdfaaDoor.L
end
section
namespace Go.Proofs.YtjlbfbpjcmjdfaaDoor.L
open Go.RowKit Go.Proofs.YtjlbfbpjcmjdfaaDoor.F Go.Proofs.YtjlbfbpjcmjdfaaDoorW.PrintWords Go.Proofs.YtjlbfbpjcmjdfaaDoorW.PrintLast Go.Proofs.YtjlbfbpjcmjdfaaDoorW.PrintMore
open Go.Proofs.YtjlbfbpjcmjdfaaDoor.Bits
set_option linter.unusedSimpArgs false
def isField (p : Int) : Bool := decide (p = 2 ∨ p = 3 ∨ p = 5 ∨ p = 7)
theorem isField_i (p : Int) : impl_isField.f p = some (isField p) := by
  unfold impl_isField.f isField
  by_cases h2 : p = 2
  · simp [h2]
  by_cases h3 : p = 3
  · simp [h3]
  by_cases h5 : p = 5
  · simp [h5]
  rw [if_neg h2, if_neg h3, if_neg h5]
  simp only [h2, h3, h5, false_or]
  rfl
theorem isField_s (p : Int) : spec_l12Prime.f p = some (isField p) := by
  unfold spec_l12Prime.f isField
  by_cases h2 : p = 2
  · simp [h2]
  by_cases h3 : p = 3
  · simp [h3]
  by_cases h5 : p = 5
  · simp [h5]
  rw [if_neg h2, if_neg h3, if_neg h5]
  simp only [h2, h3, h5, false_or]
  rfl
/-- What a matrix is. -/
def isMatrix (p r c : Int) (l : List Int) : Bool :=
  isField p && decide (0 ≤ r ∧ r ≤ 8 ∧ 0 ≤ c ∧ c ≤ 8 ∧ (l.length : Int) = r * c) && l.all fun x => decide (0 ≤ x ∧ x < p)
theorem isMatrix_no {p r c : Int} {l : List Int} (h : ¬ (isField p = true ∧ 0 ≤ r ∧ r ≤ 8 ∧ 0 ≤ c ∧ c ≤ 8 ∧ (l.length : Int) = r * c)) : isMatrix p r c l = false := by
  unfold isMatrix
  cases hp : isField p
  · simp
  · have : ¬ (0 ≤ r ∧ r ≤ 8 ∧ 0 ≤ c ∧ c ≤ 8 ∧ (l.length : Int) = r * c) := fun hh => h ⟨hp, hh⟩
    simp only [this, decide_false, Bool.and_false, Bool.false_and]
theorem mul_in {r c : Int} (hr : 0 ≤ r ∧ r ≤ 8) (hc : 0 ≤ c ∧ c ≤ 8) : 0 ≤ r * c ∧ r * c ≤ 64 :=
  ⟨Int.mul_nonneg hr.1 hc.1, by have := Int.mul_le_mul hr.2 hc.2 hc.1 (by omega : (0 : Int) ≤ 8); omega⟩
theorem isMatrix_yes {p r c : Int} {l : List Int} (h : isField p = true ∧ 0 ≤ r ∧ r ≤ 8 ∧ 0 ≤ c ∧ c ≤ 8 ∧ (l.length : Int) = r * c) : isMatrix p r c l = l.all fun x => decide (0 ≤ x ∧ x < p) := by
  unfold isMatrix; simp only [h.1, h.2, and_self, decide_true, Bool.and_self, Bool.true_and]
theorem isField_le {p : Int} (h : isField p = true) : 2 ≤ p ∧ p ≤ 7 := by
  have : p = 2 ∨ p = 3 ∨ p = 5 ∨ p = 7 := of_decide_eq_true h
  omega
theorem IsMatrix_s (p r c : Int) (l : List Int) : Ev (fun k => spec_IsMatrix.f k p r c l) (isMatrix p r c l) := by
  have no : ∀ p r c l, Ev (fun k => spec_IsMatrix.j0 k true p r c l) false := fun p r c l => Ev.succ (by simp only [spec_IsMatrix.j0, if_true]; exact Ev.now _)
  unfold spec_IsMatrix.f
  simp only [l1In, isField_s, Option.bind_some, decide_eq_true_eq]
  by_cases hp : isField p = true
  · simp only [hp, if_true]
    by_cases hr : 0 ≤ r ∧ r ≤ 8
    · simp only [hr, and_self, if_true]
      by_cases hc : 0 ≤ c ∧ c ≤ 8
      · simp only [hc, and_self, if_true]
        have hm := mul_in hr hc
        have hw : wrap64 (r * c) = r * c := wrap_in (by omega) (by omega)
        rw [hw]
        by_cases he : (l.length : Int) = r * c
        · rw [show ((l.length : Int) != r * c) = false by simp [he], isMatrix_yes ⟨hp, hr.1, hr.2, hc.1, hc.2, he⟩]
          have hp2 := isField_le hp
          refine Ev.succ ?_
          simp only [spec_IsMatrix.j0, Bool.false_eq_true, if_false]
          rw [← range_all_get l 0]
          refine loop_all0 (fun k i => spec_IsMatrix.l0 k i p r c l) _ _ (fun k => by simp only [spec_IsMatrix.l0, show ¬ ((l.length : Int) < (l.length : Int)) by omega, if_false]) ?_
          intro i hi k
          have hw : wrap64 (p - 1) = p - 1 := wrap_in (by omega) (by omega)
          simp only [spec_IsMatrix.l0, show ((i : Int) < (l.length : Int)) by omega, show (0 : Int) ≤ (i : Int) by omega, if_true, rd_getD, wrap_succ (show i < 9223372036854775807 by omega), l1In, hw, Option.bind_some, decide_eq_true_eq]
          generalize l.getD i 0 = x
          by_cases h1 : 0 ≤ x ∧ x ≤ p - 1
          · rw [if_pos h1, if_pos (by omega)]
          · rw [if_neg h1, if_neg (by omega)]
        · rw [show ((l.length : Int) != r * c) = true by simp [he], isMatrix_no (fun hh => he hh.2.2.2.2.2)]; exact no _ _ _ _
      · simp only [hc, if_false]; rw [isMatrix_no (fun hh => hc ⟨hh.2.2.2.1, hh.2.2.2.2.1⟩)]; exact no _ _ _ _
    · simp only [hr, if_false]; rw [isMatrix_no (fun hh => hr ⟨hh.2.1, hh.2.2.1⟩)]; exact no _ _ _ _
  · simp only [hp, if_false]; rw [isMatrix_no (fun hh => hp hh.1)]; exact no _ _ _ _
theorem IsMatrix_i (p r c : Int) (l : List Int) : Ev (fun k => impl_IsMatrix.f k p r c l) (isMatrix p r c l) := by
  have no : ∀ p r c l, Ev (fun k => impl_IsMatrix.j0 k true p r c l) false := fun p r c l => Ev.succ (by simp only [impl_IsMatrix.j0, if_true]; exact Ev.now _)
  unfold impl_IsMatrix.f
  simp only [isSize_i, isField_i, Option.bind_some, decide_eq_true_eq]
  by_cases hp : isField p = true
  · simp only [hp, if_true]
    by_cases hr : 0 ≤ r ∧ r ≤ 8
    · simp only [hr, and_self, if_true]
      by_cases hc : 0 ≤ c ∧ c ≤ 8
      · simp only [hc, and_self, if_true]
        have hm := mul_in hr hc
        have hw : wrap64 (r * c) = r * c := wrap_in (by omega) (by omega)
        rw [hw]
        by_cases he : (l.length : Int) = r * c
        · rw [show ((l.length : Int) != r * c) = false by simp [he], isMatrix_yes ⟨hp, hr.1, hr.2, hc.1, hc.2, he⟩]
          refine Ev.succ ?_
          simp only [impl_IsMatrix.j0, Bool.false_eq_true, if_false]
          rw [← range_all_get l 0]
          refine loop_all0 (fun k i => impl_IsMatrix.l0 k l (l.length : Int) i p r c l) _ _ (fun k => by simp only [impl_IsMatrix.l0, show ¬ ((l.length : Int) < (l.length : Int)) by omega, if_false]) ?_
          intro i hi k
          simp only [impl_IsMatrix.l0, show ((i : Int) < (l.length : Int)) by omega, show (0 : Int) ≤ (i : Int) by omega, if_true, rd_getD, wrap_succ (show i < 9223372036854775807 by omega), decide_eq_true_eq]
          generalize l.getD i 0 = x
          by_cases h1 : x < 0
          · rw [if_pos h1, if_neg (by omega)]
          rw [if_neg h1]
          by_cases h2 : x ≥ p
          · rw [if_pos h2, if_neg (by omega)]
          rw [if_neg h2, if_pos (by omega)]
        · rw [show ((l.length : Int) != r * c) = true by simp [he], isMatrix_no (fun hh => he hh.2.2.2.2.2)]; exact no _ _ _ _
      · simp only [hc, if_false]; rw [isMatrix_no (fun hh => hc ⟨hh.2.2.2.1, hh.2.2.2.2.1⟩)]; exact no _ _ _ _
    · simp only [hr, if_false]; rw [isMatrix_no (fun hh => hr ⟨hh.2.1, hh.2.2.1⟩)]; exact no _ _ _ _
  · simp only [hp, if_false]; rw [isMatrix_no (fun hh => hp hh.1)]; exact no _ _ _ _
theorem eqMatrix (p r c : Int) (l : List Int) (p' r' c' : Int) (l' : List Int) (h : l.length ≤ 17592186044416) : Ev (fun k => laws_eqMatrix.f k p r c l p' r' c' l') (decide ((p, r, c, l) = (p', r', c', l'))) := by
  unfold laws_eqMatrix.f
  by_cases h1 : p = p'
  · by_cases h2 : r = r'
    · by_cases h3 : c = c'
      · simp only [h1, h2, h3, if_true]
        refine Ev.bind (eqIntS l l' h) ?_
        by_cases h4 : l = l'
        · simp only [h4, decide_true, if_true]; exact Ev.now _
        · simp only [h4, decide_false, Bool.false_eq_true, if_false]; simp only [Prod.mk.injEq, h4, and_false, decide_false]; exact Ev.now _
      · simp only [h1, h2, h3, if_true, if_false, Prod.mk.injEq, and_false, false_and, decide_false]; exact Ev.now _
    · simp only [h1, h2, if_true, if_false, Prod.mk.injEq, and_false, false_and, decide_false]; exact Ev.now _
  · simp only [h1, if_false, Prod.mk.injEq, false_and, decide_false]; exact Ev.now _
end Go.Proofs.YtjlbfbpjcmjdfaaDoor.L
end
section
namespace Go.Proofs.YtjlbfbpjcmjdfaaDoor.L
open Go.RowKit Go.Proofs.YtjlbfbpjcmjdfaaDoor.F Go.Proofs.YtjlbfbpjcmjdfaaDoorW.PrintWords Go.Proofs.YtjlbfbpjcmjdfaaDoorW.PrintLast Go.Proofs.YtjlbfbpjcmjdfaaDoorW.PrintMore
open Go.Proofs.YtjlbfbpjcmjdfaaDoor.Bits
set_option linter.unusedSimpArgs false
set_option linter.unusedVariables false
/-- What a matrix holds, in natural numbers' places. -/
theorem matrix_parts {p r c : Int} {l : List Int} (h : isMatrix p r c l = true) : ∃ R C : Nat, r = R ∧ c = C ∧ R ≤ 8 ∧ C ≤ 8 ∧ l.length = R * C ∧ 2 ≤ p ∧ p ≤ 7 ∧ isField p = true ∧ ∀ x ∈ l, 0 ≤ x ∧ x < p := by
  unfold isMatrix at h
  simp only [Bool.and_eq_true, decide_eq_true_eq] at h
  obtain ⟨⟨h1, h2, h3, h4, h5, h6⟩, h7⟩ := h
  obtain ⟨R, rfl⟩ := Int.eq_ofNat_of_zero_le h2
  obtain ⟨C, rfl⟩ := Int.eq_ofNat_of_zero_le h4
  have := isField_le h1
  refine ⟨R, C, rfl, rfl, by omega, by omega, ?_, this.1, this.2, h1, fun x hx => ?_⟩
  · have : ((l.length : Nat) : Int) = ((R * C : Nat) : Int) := by rw [h6]; simp
    omega
  · have := List.all_eq_true.1 h7 x hx; simpa using this
theorem cell_in {R C i j : Nat} {l : List Int} (hl : l.length = R * C) (hi : i < R) (hj : j < C) : i * C + j < l.length := by
  rw [hl]; calc i * C + j < i * C + C := by omega
    _ = (i + 1) * C := by rw [Nat.succ_mul]
    _ ≤ R * C := Nat.mul_le_mul_right C hi
/-- The index of a cell, as1 the program computes it. -/
theorem cell_index {i C j : Nat} (hi : i ≤ 8) (hC : C ≤ 8) (hj : j ≤ 8) : wrap64 ((wrap64 ((i : Int) * (C : Int))) + (j : Int)) = ((i * C + j : Nat) : Int) := by
  have h : i * C ≤ 8 * 8 := Nat.mul_le_mul hi hC
  have e : (i : Int) * (C : Int) = ((i * C : Nat) : Int) := by simp
  rw [e, wrap_in (n := ((i * C : Nat) : Int)) (by omega) (by omega), wrap_in (by omega) (by omega)]; omega
theorem getD_in {l : List Int} {p : Int} (hp : 2 ≤ p) (h : ∀ x ∈ l, 0 ≤ x ∧ x < p) (i : Nat) : 0 ≤ l.getD i 0 ∧ l.getD i 0 < p := by
  by_cases hi : i < l.length
  · have := h l[i] (List.getElem_mem hi); simpa [List.getElem?_eq_getElem hi] using this
  · simp [List.getElem?_eq_none (Nat.le_of_not_lt hi)]; omega
end Go.Proofs.YtjlbfbpjcmjdfaaDoor.L
end
section
namespace Go.Proofs.YtjlbfbpjcmjdfaaDoor.L
open Go.RowKit Go.Proofs.YtjlbfbpjcmjdfaaDoor.F Go.Proofs.YtjlbfbpjcmjdfaaDoorW.PrintWords Go.Proofs.YtjlbfbpjcmjdfaaDoorW.PrintLast Go.Proofs.YtjlbfbpjcmjdfaaDoorW.PrintMore
open Go.Proofs.YtjlbfbpjcmjdfaaDoor.Bits
set_option linter.unusedSimpArgs false
set_option linter.unusedVariables false
def dg (n : Nat) : ByteArray := ⟨#[UInt8.ofNat (48 + n)]⟩
theorem dg_size (n : Nat) : (dg n).size = 1 := rfl
theorem sp_size (b : UInt8) : (⟨#[b]⟩ : ByteArray).size = 1 := rfl
theorem Format_i {n : Nat} (h : n < 10) : impl_FormatInt.f (n : Int) = some (dg n) := by
  unfold impl_FormatInt.f
  rw [if_pos (by omega), Int.toNat_natCast, Lib.decDigits, dif_pos h]
  rfl
theorem nums_dg {n : Nat} (h : n < 10) : strOfNums [((48 + n : Nat) : Int)] = dg n := by
  have h1 := Lib.Lz.strOfNums_map [UInt8.ofNat (48 + n)]
  have h2 : (UInt8.ofNat (48 + n)).toNat = 48 + n := by rw [UInt8.toNat_ofNat']; omega
  rw [List.map_cons, List.map_nil, h2] at h1
  exact h1
theorem Format_s {n : Nat} (h : n < 10) : Ev (fun k => spec_FormatInt.f k (n : Int)) (dg n) := by
  unfold spec_FormatInt.f
  by_cases h0 : n = 0
  · subst h0
    simp only [show (((0 : Nat) : Int) = 0) from rfl, if_true]; exact Ev.now _
  have e1 : Int.tmod (n : Int) 10 = n := by rw [Int.tmod_eq_emod_of_nonneg (by omega)]; omega
  have e2 : Int.tdiv (n : Int) 10 = 0 := by rw [Int.tdiv_eq_ediv_of_nonneg (by omega)]; omega
  have e3 : wrap64 (48 + (n : Int)) % 256 = ((48 + n : Nat) : Int) := by rw [wrap_in (by omega) (by omega)]; omega
  have e5 : wrap64 (0 : Int) = 0 := wrap_in (by omega) (by omega)
  have e6 : decide ((n : Int) < 0) = false := decide_eq_false (by omega)
  simp only [if_neg (show ¬ ((n : Int) = 0) by omega)]
  refine Ev.succ ?_
  simp only [spec_FormatInt.l0, if_neg (show ¬ ((n : Int) = 0) by omega), e1, if_neg (show ¬ ((n : Int) < 0) by omega), Option.bind_some, e3, nums_dg h, e2, e5, e6, dg_size]
  rw [show (⟨#[]⟩ : ByteArray).size = 0 from rfl, show dg n ++ (⟨#[]⟩ : ByteArray) = dg n from ByteArray.append_empty]
  simp only [show (1 + 0 ≤ 9223372036854775807) by omega, if_true]
  refine Ev.succ ?_
  simp only [spec_FormatInt.l0, if_true, Bool.false_eq_true, if_false]
  exact Ev.now _
def rowT (l : List Int) (C i : Nat) (s : ByteArray) : ByteArray := (List.range C).foldl (fun s j => s ++ dg (l.getD (i * C + j) 0).toNat) (s ++ ⟨#[32]⟩)
def matT (l : List Int) (P R C : Nat) : ByteArray := (List.range R).foldl (fun s i => rowT l C i s) (dg P ++ ⟨#[32]⟩ ++ dg R ++ ⟨#[120]⟩ ++ dg C)
section
variable {P R C : Nat} {l : List Int}
theorem text_s (hR : R ≤ 8) (hC : C ≤ 8) (hl : l.length = R * C) (hP : 2 ≤ P ∧ P ≤ 7) (hx : ∀ x ∈ l, 0 ≤ x ∧ x < (P : Int)) {s0 : ByteArray} (h0 : s0.size ≤ 5) :
    Ev (fun k => spec_MatrixText.l0 k s0 0 P R C l) ((List.range R).foldl (fun s i => rowT l C i s) s0) := by
  have key := loop_reach (fun k s i => spec_MatrixText.l0 k s i P R C l) R (fun s i => rowT l C i s) (fun i s => s.size ≤ 5 + 9 * i)
    (fun i s hi hs => by
      have inner := loop_reach (fun k s j => spec_MatrixText.l1 k s i j P R C l) C (fun s j => s ++ dg (l.getD (i * C + j) 0).toNat) (fun j s => s.size ≤ 6 + 9 * i + j)
        (fun j s hj hs => ⟨by rw [ByteArray.size_append, dg_size]; omega, fun r hr => by
          have hin := cell_in hl hi hj
          have hg := getD_in (show (2 : Int) ≤ (P : Int) by omega) hx (i * C + j)
          obtain ⟨x, ex⟩ := Int.eq_ofNat_of_zero_le hg.1
          rw [ex] at hr hg
          simp only [spec_MatrixText.l1, show ((j : Int) < (C : Int)) by omega, if_true, cell_index (show i ≤ 8 by omega) hC (show j ≤ 8 by omega), show (0 : Int) ≤ ((i * C + j : Nat) : Int) by omega, show ((i * C + j : Nat) : Int) < (l.length : Int) by omega, rd_getD, ex, wrap_succ (show j < 9223372036854775807 by omega)]
          refine Ev.bind (Format_s (show x < 10 by omega)) ?_
          have hc : s.size + 1 ≤ 9223372036854775807 := by omega
          simp only [dg_size, hc, if_true]
          rw [Int.toNat_natCast] at hr; exact hr⟩) (s ++ ⟨#[32]⟩) (by rw [ByteArray.size_append, sp_size]; omega)
      have hrow : rowT l C i s = (List.range C).foldl (fun s j => s ++ dg (l.getD (i * C + j) 0).toNat) (s ++ ⟨#[32]⟩) := rfl
      refine ⟨by rw [hrow]; have := inner.1; omega, fun r hr => ?_⟩
      simp only [spec_MatrixText.l0, show ((i : Int) < (R : Int)) by omega, if_true, if_pos (show s.size + 1 ≤ 9223372036854775807 by omega)]
      refine inner.2 _ (Ev.succ ?_)
      simp only [spec_MatrixText.l1, show ¬ ((C : Int) < (C : Int)) by omega, if_false, wrap_succ (show i < 9223372036854775807 by omega)]
      rw [← hrow]; exact hr) s0 (by omega)
  refine key.2 _ (Ev.succ ?_)
  simp only [spec_MatrixText.l0, show ¬ ((R : Int) < (R : Int)) by omega, if_false]
  exact Ev.now _
theorem text_i (hR : R ≤ 8) (hC : C ≤ 8) (hl : l.length = R * C) (hP : 2 ≤ P ∧ P ≤ 7) (hx : ∀ x ∈ l, 0 ≤ x ∧ x < (P : Int)) {s0 : ByteArray} (h0 : s0.size ≤ 5) :
    Ev (fun k => impl_MatrixText.l0 k s0 0 P R C l) ((List.range R).foldl (fun s i => rowT l C i s) s0) := by
  have key := loop_reach (fun k s i => impl_MatrixText.l0 k s i P R C l) R (fun s i => rowT l C i s) (fun i s => s.size ≤ 5 + 9 * i)
    (fun i s hi hs => by
      have inner := loop_reach (fun k s j => impl_MatrixText.l1 k s i j P R C l) C (fun s j => s ++ dg (l.getD (i * C + j) 0).toNat) (fun j s => s.size ≤ 6 + 9 * i + j)
        (fun j s hj hs => ⟨by rw [ByteArray.size_append, dg_size]; omega, fun r hr => by
          have hin := cell_in hl hi hj
          have hg := getD_in (show (2 : Int) ≤ (P : Int) by omega) hx (i * C + j)
          obtain ⟨x, ex⟩ := Int.eq_ofNat_of_zero_le hg.1
          rw [ex] at hr hg
          have hc : s.size + 1 ≤ 9223372036854775807 := by omega
          simp only [impl_MatrixText.l1, impl_Matrix_at.f, show ((j : Int) < (C : Int)) by omega, if_true, cell_index (show i ≤ 8 by omega) hC (show j ≤ 8 by omega), show (0 : Int) ≤ ((i * C + j : Nat) : Int) by omega, show ((i * C + j : Nat) : Int) < (l.length : Int) by omega, rd_getD, ex, wrap_succ (show j < 9223372036854775807 by omega), Option.bind_some, Format_i (show x < 10 by omega), dg_size, hc, if_true]
          rw [Int.toNat_natCast] at hr; exact hr⟩) (s ++ ⟨#[32]⟩) (by rw [ByteArray.size_append, sp_size]; omega)
      have hrow : rowT l C i s = (List.range C).foldl (fun s j => s ++ dg (l.getD (i * C + j) 0).toNat) (s ++ ⟨#[32]⟩) := rfl
      refine ⟨by rw [hrow]; have := inner.1; omega, fun r hr => ?_⟩
      simp only [impl_MatrixText.l0, show ((i : Int) < (R : Int)) by omega, if_true, if_pos (show s.size + 1 ≤ 9223372036854775807 by omega)]
      refine inner.2 _ (Ev.succ ?_)
      simp only [impl_MatrixText.l1, show ¬ ((C : Int) < (C : Int)) by omega, if_false, wrap_succ (show i < 9223372036854775807 by omega)]
      rw [← hrow]; exact hr) s0 (by omega)
  refine key.2 _ (Ev.succ ?_)
  simp only [impl_MatrixText.l0, show ¬ ((R : Int) < (R : Int)) by omega, if_false]
  exact Ev.now _
end
def textI (p r c : Int) (l : List Int) : ByteArray := if isMatrix p r c l = true then matT l p.toNat r.toNat c.toNat else ⟨#[]⟩
theorem MatrixText_i (p r c : Int) (l : List Int) : Ev (fun k => impl_MatrixText.f k p r c l) (textI p r c l) := by
  unfold impl_MatrixText.f textI
  refine Ev.bind (IsMatrix_i p r c l) ?_
  cases h : isMatrix p r c l
  · simp only [Bool.false_eq_true, if_false]; exact Ev.now _
  obtain ⟨R, C, rfl, rfl, hR, hC, hl, h2, h7, hf, hx⟩ := matrix_parts h
  obtain ⟨P, rfl⟩ := Int.eq_ofNat_of_zero_le (show 0 ≤ p by omega)
  simp only [if_true, Int.toNat_natCast, Format_i (show P < 10 by omega), Format_i (show R < 10 by omega), Format_i (show C < 10 by omega), Option.bind_some, dg_size, ByteArray.size_append, sp_size]
  simp only [show (1 + 1 ≤ 9223372036854775807) by omega, show (1 + 1 + 1 ≤ 9223372036854775807) by omega, show (1 + 1 + 1 + 1 ≤ 9223372036854775807) by omega, show (1 + 1 + 1 + 1 + 1 ≤ 9223372036854775807) by omega, if_true]
  exact text_i hR hC hl ⟨by omega, by omega⟩ hx (by simp only [ByteArray.size_append, dg_size, sp_size]; omega)
theorem MatrixText_s (p r c : Int) (l : List Int) : Ev (fun k => spec_MatrixText.f k p r c l) (textI p r c l) := by
  unfold spec_MatrixText.f textI
  refine Ev.bind (IsMatrix_s p r c l) ?_
  cases h : isMatrix p r c l
  · simp only [Bool.false_eq_true, if_false]; exact Ev.now _
  obtain ⟨R, C, rfl, rfl, hR, hC, hl, h2, h7, hf, hx⟩ := matrix_parts h
  obtain ⟨P, rfl⟩ := Int.eq_ofNat_of_zero_le (show 0 ≤ p by omega)
  simp only [if_true, Int.toNat_natCast]
  refine Ev.bind (Format_s (show P < 10 by omega)) ?_
  simp only [dg_size, if_pos (show (1 + 1 ≤ 9223372036854775807) by omega)]
  refine Ev.bind (Format_s (show R < 10 by omega)) ?_
  simp only [ByteArray.size_append, dg_size, sp_size, if_pos (show (1 + 1 + 1 ≤ 9223372036854775807) by omega), if_pos (show (1 + 1 + 1 + 1 ≤ 9223372036854775807) by omega)]
  refine Ev.bind (Format_s (show C < 10 by omega)) ?_
  simp only [ByteArray.size_append, dg_size, sp_size, if_pos (show (1 + 1 + 1 + 1 + 1 ≤ 9223372036854775807) by omega)]
  exact text_s hR hC hl ⟨by omega, by omega⟩ hx (by simp only [ByteArray.size_append, dg_size, sp_size]; omega)
end Go.Proofs.YtjlbfbpjcmjdfaaDoor.L
end
section
namespace Go.Proofs.YtjlbfbpjcmjdfaaDoor.L
open Go.RowKit Go.Proofs.YtjlbfbpjcmjdfaaDoor.F Go.Proofs.YtjlbfbpjcmjdfaaDoorW.PrintWords Go.Proofs.YtjlbfbpjcmjdfaaDoorW.PrintLast Go.Proofs.YtjlbfbpjcmjdfaaDoorW.PrintMore
open Go.Proofs.YtjlbfbpjcmjdfaaDoor.Bits
set_option linter.unusedSimpArgs false
set_option linter.unusedVariables false
theorem one_size (x : Int) : (strOfNums [x]).size = 1 := rfl
theorem Format_loop (neg : Bool) : ∀ (m : Nat) (n : Int) (out : ByteArray), m ≤ 13 → -(10 : Int) ^ m < n → n < (10 : Int) ^ m → out.size + m ≤ 1000 → ∃ t, Ev (fun k => spec_FormatInt.l0 k n neg out) t := by
  have fin : ∀ out : ByteArray, out.size ≤ 1000 → ∃ t, Ev (fun k => spec_FormatInt.l0 k 0 neg out) t := by
    intro out ho
    cases neg
    · exact ⟨out, Ev.succ (by simp only [spec_FormatInt.l0, if_true, Bool.false_eq_true, if_false]; exact Ev.now _)⟩
    · exact ⟨_, Ev.succ (by simp only [spec_FormatInt.l0, if_true, show 1 + out.size ≤ 9223372036854775807 by omega]; exact Ev.now _)⟩
  intro m
  induction m with
  | zero => intro n out hm h0 h1 ho; obtain rfl : n = 0 := by omega
            exact fin out (by omega)
  | succ m ih =>
    intro n out hm h0 h1 ho
    by_cases hn : n = 0
    · subst hn; exact fin out (by omega)
    have hp : (10 : Int) ^ (m + 1) = 10 * (10 : Int) ^ m := by rw [Int.pow_succ]; omega
    rw [hp] at h0 h1
    have hb : (10 : Int) ^ m ≤ 10 ^ 13 := by
      have := Nat.pow_le_pow_right (n := 10) (by decide) (show m ≤ 13 by omega)
      have h2 : ((10 ^ m : Nat) : Int) ≤ ((10 ^ 13 : Nat) : Int) := by omega
      rw [Int.natCast_pow, Int.natCast_pow] at h2
      exact h2
    generalize (10 : Int) ^ m = P at ih h0 h1 hb hp
    have hb' : P ≤ 10000000000000 := hb
    have hd0 : -P < Int.tdiv n 10 := by
      rcases Int.le_total 0 n with h | h
      · rw [Int.tdiv_eq_ediv_of_nonneg h]; omega
      · rw [show n = -(-n) by omega, Int.neg_tdiv, Int.tdiv_eq_ediv_of_nonneg (by omega)]; omega
    have hd1 : Int.tdiv n 10 < P := by
      rcases Int.le_total 0 n with h | h
      · rw [Int.tdiv_eq_ediv_of_nonneg h]; omega
      · rw [show n = -(-n) by omega, Int.neg_tdiv, Int.tdiv_eq_ediv_of_nonneg (by omega)]; omega
    have hw : wrap64 (Int.tdiv n 10) = Int.tdiv n 10 := wrap_in (by omega) (by omega)
    by_cases hr : Int.tmod n 10 < 0
    · obtain ⟨t, ht⟩ := ih (Int.tdiv n 10) (strOfNums [wrap64 (48 + wrap64 (-Int.tmod n 10)) % 256] ++ out) (by omega) hd0 hd1 (by rw [ByteArray.size_append, one_size]; omega)
      refine ⟨t, Ev.succ ?_⟩
      simp only [spec_FormatInt.l0, hn, if_false, hr, if_true, Option.bind_some, one_size, show 1 + out.size ≤ 9223372036854775807 by omega, hw]
      exact ht
    · obtain ⟨t, ht⟩ := ih (Int.tdiv n 10) (strOfNums [wrap64 (48 + Int.tmod n 10) % 256] ++ out) (by omega) hd0 hd1 (by rw [ByteArray.size_append, one_size]; omega)
      refine ⟨t, Ev.succ ?_⟩
      simp only [spec_FormatInt.l0, hn, if_false, hr, if_true, Option.bind_some, one_size, show 1 + out.size ≤ 9223372036854775807 by omega, hw]
      exact ht
theorem Format_tot (n : Int) (h0 : -(10 : Int) ^ 13 < n) (h1 : n < (10 : Int) ^ 13) : ∃ t, Ev (fun k => spec_FormatInt.f k n) t := by
  unfold spec_FormatInt.f
  by_cases hn : n = 0
  · subst hn; exact ⟨_, by simp only [if_true]; exact Ev.now _⟩
  simp only [hn, if_false]
  exact Format_loop _ 13 n _ (Nat.le_refl _) h0 h1 (by decide)
def Told (s : ByteArray) (q : Int × Bool) : Prop := q.2 = true → ∃ u, Ev (fun k => spec_FormatInt.f k q.1) u ∧ u.toList = s.toList
theorem told_no (s : ByteArray) (n : Int) : Told s (n, false) := fun h => absurd h (by simp)
theorem read_end (s t : ByteArray) (neg : Bool) (n : Int) (h0 : 0 ≤ n) (h1 : n < (10 : Int) ^ 12) : ∃ q, Ev (fun k => spec_l1Read.l0 k s neg t n (t.size : Int)) q ∧ Told s q := by
  have h1' : n < 1000000000000 := h1
  cases neg
  · obtain ⟨u, hu⟩ := Format_tot n (by omega) (by omega)
    by_cases c : u.toList = s.toList
    · refine ⟨(n, true), Ev.succ ?_, fun _ => ⟨u, hu, c⟩⟩
      simp only [spec_l1Read.l0, show ¬ ((t.size : Int) < (t.size : Int)) by omega, if_false, Bool.false_eq_true]
      refine Ev.bind hu ?_
      simp only [c, if_true]; exact Ev.now _
    · refine ⟨(0, false), Ev.succ ?_, told_no _ _⟩
      simp only [spec_l1Read.l0, show ¬ ((t.size : Int) < (t.size : Int)) by omega, if_false, Bool.false_eq_true]
      refine Ev.bind hu ?_
      simp only [c, if_false]; exact Ev.now _
  · have hw : wrap64 (-n) = -n := wrap_in (by omega) (by omega)
    obtain ⟨u, hu⟩ := Format_tot (-n) (by omega) (by omega)
    by_cases c : u.toList = s.toList
    · refine ⟨(-n, true), Ev.succ ?_, fun _ => ⟨u, hu, c⟩⟩
      simp only [spec_l1Read.l0, show ¬ ((t.size : Int) < (t.size : Int)) by omega, if_false, if_true, hw]
      refine Ev.bind hu ?_
      simp only [c, if_true]; exact Ev.now _
    · refine ⟨(0, false), Ev.succ ?_, told_no _ _⟩
      simp only [spec_l1Read.l0, show ¬ ((t.size : Int) < (t.size : Int)) by omega, if_false, if_true, hw]
      refine Ev.bind hu ?_
      simp only [c, if_false]; exact Ev.now _
theorem read_loop (s t : ByteArray) (neg : Bool) (ht : t.size ≤ 12) : ∀ (d i : Nat) (n : Int), i + d = t.size → 0 ≤ n → n < (10 : Int) ^ i → ∃ q, Ev (fun k => spec_l1Read.l0 k s neg t n (i : Int)) q ∧ Told s q := by
  have hz : t.data.toList.length = t.size := rfl
  have mono : ∀ i, i ≤ 12 → (10 : Int) ^ i ≤ 10 ^ 12 := fun i hi => by
    have := Nat.pow_le_pow_right (n := 10) (by decide) hi
    have h2 : ((10 ^ i : Nat) : Int) ≤ ((10 ^ 12 : Nat) : Int) := by omega
    rw [Int.natCast_pow, Int.natCast_pow] at h2
    exact h2
  intro d
  induction d with
  | zero =>
    intro i n hd h0 h1
    obtain rfl : i = t.size := by omega
    exact read_end s t neg n h0 (Int.lt_of_lt_of_le h1 (mono _ ht))
  | succ d ih =>
    intro i n hd h0 h1
    have hi : i < t.data.toList.length := by omega
    have hm := mono i (by omega)
    have hm' : (10 : Int) ^ i ≤ 1000000000000 := hm
    have hp : (10 : Int) ^ (i + 1) = 10 * (10 : Int) ^ i := by rw [Int.pow_succ]; omega
    have hb := bt_get t i hi
    generalize (t.data.toList[i]'hi).toNat = b at hb
    by_cases c1 : (b : Int) < 48
    · refine ⟨(0, false), Ev.succ ?_, told_no _ _⟩
      simp only [spec_l1Read.l0, show ((i : Int) < (t.size : Int)) by omega, show (0 : Int) ≤ (i : Int) by omega, if_true, hb, c1]; exact Ev.now _
    by_cases c2 : (b : Int) > 57
    · refine ⟨(0, false), Ev.succ ?_, told_no _ _⟩
      simp only [spec_l1Read.l0, show ((i : Int) < (t.size : Int)) by omega, show (0 : Int) ≤ (i : Int) by omega, if_true, if_false, hb, c1, c2]; exact Ev.now _
    have e1 : ((b : Int) - 48) % 256 = (b : Int) - 48 := by omega
    have e2 : wrap64 (10 * n) = 10 * n := wrap_in (by omega) (by omega)
    have e3 : wrap64 (10 * n + ((b : Int) - 48)) = 10 * n + ((b : Int) - 48) := wrap_in (by omega) (by omega)
    obtain ⟨q, hq, hT⟩ := ih (i + 1) (10 * n + ((b : Int) - 48)) (by omega) (by omega) (by rw [hp]; omega)
    refine ⟨q, Ev.succ ?_, hT⟩
    simp only [spec_l1Read.l0, show ((i : Int) < (t.size : Int)) by omega, show (0 : Int) ≤ (i : Int) by omega, if_true, if_false, hb, c1, c2, e1, e2, e3, wrap_succ (show i < 9223372036854775807 by omega)]
    exact hq
theorem read_rest (s t : ByteArray) (neg : Bool) : ∃ q, Ev (fun k => spec_l1Read.j1 k s 12 neg t) q ∧ Told s q := by
  by_cases c1 : (t.size : Int) < 1
  · refine ⟨(0, false), Ev.succ ?_, told_no _ _⟩
    simp only [spec_l1Read.j1, c1, if_true]
    refine Ev.succ ?_
    simp only [spec_l1Read.j2, if_true]; exact Ev.now _
  by_cases c2 : (t.size : Int) > 12
  · refine ⟨(0, false), Ev.succ ?_, told_no _ _⟩
    simp only [spec_l1Read.j1, c1, if_false, c2, decide_true]
    refine Ev.succ ?_
    simp only [spec_l1Read.j2, if_true]; exact Ev.now _
  obtain ⟨q, hq, hT⟩ := read_loop s t neg (by omega) t.size 0 0 (by omega) (by omega) (by decide)
  refine ⟨q, Ev.succ ?_, hT⟩
  simp only [spec_l1Read.j1, c1, if_false, c2, decide_false]
  refine Ev.succ ?_
  simp only [spec_l1Read.j2, Bool.false_eq_true, if_false]; exact hq
theorem ParseInt_tot (s : ByteArray) : ∃ q, Ev (fun k => spec_ParseInt.f k s) q ∧ Told s q := by
  have key : ∃ q, Ev (fun k => spec_l1Read.f k s 12) q ∧ Told s q := by
    unfold spec_l1Read.f
    by_cases c : (s.size : Int) > 0
    · simp only [c, if_true, show (0 : Int) < (s.size : Int) by omega]
      cases hb : (bt s 0 == 45)
      · obtain ⟨q, hq, hT⟩ := read_rest s s false
        exact ⟨q, Ev.succ (by simp only [spec_l1Read.j0, Bool.false_eq_true, if_false]; exact hq), hT⟩
      · obtain ⟨q, hq, hT⟩ := read_rest s (s.extract 1 s.size) true
        exact ⟨q, Ev.succ (by simp only [spec_l1Read.j0, if_true, show (1 : Int) ≤ (s.size : Int) by omega]; exact hq), hT⟩
    · simp only [c, if_false]
      obtain ⟨q, hq, hT⟩ := read_rest s s false
      exact ⟨q, Ev.succ (by simp only [spec_l1Read.j0, Bool.false_eq_true, if_false]; exact hq), hT⟩
  obtain ⟨q, hq, hT⟩ := key
  refine ⟨q, ?_, hT⟩
  unfold spec_ParseInt.f
  exact Ev.bind hq (Ev.now _)
theorem dg_bt {n : Nat} (h : n < 10) : bt (dg n) ((0 : Nat) : Int) = ((48 + n : Nat) : Int) := by
  rw [bt_get (dg n) 0 (by show 0 < 1; omega)]
  show (((UInt8.ofNat (48 + n)).toNat : Nat) : Int) = _
  rw [UInt8.toNat_ofNat']; omega
theorem ParseInt_dg {n : Nat} (h : n < 10) : Ev (fun k => spec_ParseInt.f k (dg n)) ((n : Int), true) := by
  have hb := dg_bt h
  rw [show ((0 : Nat) : Int) = 0 from rfl] at hb
  have e1 : (((48 + n : Nat) : Int) == 45) = false := beq_eq_false_iff_ne.mpr (by omega)
  have e2 : (((48 + n : Nat) : Int) - 48) % 256 = n := by omega
  have e3 : wrap64 (10 * 0) = 0 := wrap_in (by omega) (by omega)
  have e4 : wrap64 (0 + (n : Int)) = n := by rw [Int.zero_add]; exact wrap_in (by omega) (by omega)
  have e5 : wrap64 (0 + 1) = 1 := wrap_in (by omega) (by omega)
  unfold spec_ParseInt.f
  refine Ev.bind (?_ : Ev (fun k => spec_l1Read.f k (dg n) 12) ((n : Int), true)) (Ev.now _)
  unfold spec_l1Read.f
  simp only [dg_size, show (((1 : Nat) : Int) > 0) by omega, show ((0 : Int) < ((1 : Nat) : Int)) by omega, if_true, hb, e1]
  refine Ev.succ ?_
  simp only [spec_l1Read.j0, Bool.false_eq_true, if_false]
  refine Ev.succ ?_
  simp only [spec_l1Read.j1, dg_size, show ¬ (((1 : Nat) : Int) < 1) by omega, if_false, show ¬ (((1 : Nat) : Int) > 12) by omega, decide_false]
  refine Ev.succ ?_
  simp only [spec_l1Read.j2, Bool.false_eq_true, if_false]
  refine Ev.succ ?_
  simp only [spec_l1Read.l0, dg_size, show ((0 : Int) < ((1 : Nat) : Int)) by omega, show ((0 : Int) ≤ 0) by omega, if_true, hb, show ¬ (((48 + n : Nat) : Int) < 48) by omega, show ¬ (((48 + n : Nat) : Int) > 57) by omega, if_false, e2, e3, e4, e5]
  refine Ev.succ ?_
  simp only [spec_l1Read.l0, dg_size, show ¬ ((1 : Int) < ((1 : Nat) : Int)) by omega, if_false, Bool.false_eq_true]
  refine Ev.bind (Format_s h) ?_
  simp only [if_true]; exact Ev.now _
theorem Number_dg {n : Nat} (h : n < 10) : impl_ParseNumber.f (dg n) = some ((n : Int), true) := by
  have h1 : ∀ n : Fin 10, Lib.atoiAll (dg n.val).data.toList = .ok (n.val : Int) := by decide
  have h2 : itoaB (n : Int) = dg n := by
    unfold itoaB Lib.itoa
    rw [if_neg (by omega), Int.toNat_natCast, Lib.decDigits, dif_pos h]
    rfl
  unfold impl_ParseNumber.f within
  rw [if_pos (by show 1 ≤ _; omega), h1 ⟨n, h⟩]
  simp only [show ¬ ((n : Int) < 0) by omega, show ¬ ((n : Int) > 999999) by omega, if_false, h2, if_true]
end Go.Proofs.YtjlbfbpjcmjdfaaDoor.L
end
section
namespace Go.Proofs.YtjlbfbpjcmjdfaaDoor.L
open Go.RowKit Go.Proofs.YtjlbfbpjcmjdfaaDoor.F Go.Proofs.YtjlbfbpjcmjdfaaDoorW.PrintWords Go.Proofs.YtjlbfbpjcmjdfaaDoorW.PrintLast Go.Proofs.YtjlbfbpjcmjdfaaDoorW.PrintMore
open Go.Proofs.YtjlbfbpjcmjdfaaDoor.Bits
set_option linter.unusedSimpArgs false
set_option linter.unusedVariables false
theorem app_data (a b : ByteArray) : (a ++ b).data.toList = a.data.toList ++ b.data.toList := by rw [ByteArray.data_append, Array.toList_append]
def dc (n : Nat) : UInt8 := UInt8.ofNat (48 + n)
theorem dc_ne {n : Nat} (h : n < 10) : (32 : UInt8) ≠ dc n ∧ (120 : UInt8) ≠ dc n := by
  have : ∀ n : Fin 10, (32 : UInt8) ≠ dc n.val ∧ (120 : UInt8) ≠ dc n.val := by decide
  exact this ⟨n, h⟩
theorem fold_data (f : Nat → ByteArray) : ∀ (js : List Nat) (s : ByteArray), ∃ r, (js.foldl (fun s j => s ++ f j) s).data.toList = s.data.toList ++ r
  | [], s => ⟨[], by simp⟩
  | j :: js, s => by
    obtain ⟨r, hr⟩ := fold_data f js (s ++ f j)
    exact ⟨(f j).data.toList ++ r, by rw [List.foldl_cons, hr, app_data, List.append_assoc]⟩
theorem rowT_data (l : List Int) (C i : Nat) (s : ByteArray) : ∃ r, (rowT l C i s).data.toList = s.data.toList ++ 32 :: r := by
  obtain ⟨r, hr⟩ := fold_data (fun j => dg (l.getD (i * C + j) 0).toNat) (List.range C) (s ++ ⟨#[32]⟩)
  refine ⟨r, ?_⟩
  unfold rowT
  rw [hr, app_data, List.append_assoc]
  rfl
theorem rows_data (l : List Int) (C : Nat) : ∀ (is : List Nat) (s : ByteArray), ∃ r, (r = [] ∨ ∃ r', r = 32 :: r') ∧ (is.foldl (fun s i => rowT l C i s) s).data.toList = s.data.toList ++ r
  | [], s => ⟨[], Or.inl rfl, by simp⟩
  | i :: is, s => by
    obtain ⟨r, _, hr⟩ := rows_data l C is (rowT l C i s)
    obtain ⟨q, hq⟩ := rowT_data l C i s
    exact ⟨32 :: (q ++ r), Or.inr ⟨_, rfl⟩, by rw [List.foldl_cons, hr, hq]; simp⟩
theorem matT_words {P R C : Nat} (l : List Int) (hP : P < 10) (hR : R < 10) (hC : C < 10) : ∃ b y, words 32 (matT l P R C) = dg P :: b :: y ∧ words 120 b = [dg R, dg C] := by
  obtain ⟨r, hr, hd⟩ := rows_data l C (List.range R) (dg P ++ ⟨#[32]⟩ ++ dg R ++ ⟨#[120]⟩ ++ dg C)
  have hd' : (matT l P R C).data.toList = [dc P] ++ 32 :: ([dc R, 120, dc C] ++ r) := by
    unfold matT
    rw [hd]
    simp only [app_data, List.append_assoc]
    rfl
  have h1 := dc_ne hP
  have h2 := dc_ne hR
  have h3 := dc_ne hC
  have n1 : (32 : UInt8) ∉ [dc P] := by simp [h1.1]
  have n2 : (32 : UInt8) ∉ [dc R, 120, dc C] := by simp [h2.1, h3.1]
  have hb : words 120 (mk [dc R, 120, dc C]) = [dg R, dg C] := by
    have : wl 120 [dc R, 120, dc C] = [[dc R], [dc C]] := by
      rw [show [dc R, 120, dc C] = [dc R] ++ 120 :: [dc C] from rfl, wl_app 120 _ _ (by simp [h2.2]), wl_one 120 _ (by simp [h3.2])]
    unfold words
    rw [show (mk [dc R, 120, dc C]).data.toList = [dc R, 120, dc C] from rfl, this]
    rfl
  unfold words
  rw [hd', wl_app 32 _ _ n1]
  rcases hr with rfl | ⟨r', rfl⟩
  · rw [List.append_nil, wl_one 32 _ n2]
    exact ⟨mk [dc R, 120, dc C], [], rfl, hb⟩
  · rw [wl_app 32 _ _ n2]
    exact ⟨mk [dc R, 120, dc C], (wl 32 r').map mk, rfl, hb⟩
theorem word_size {c : UInt8} {t w : ByteArray} (h : w ∈ words c t) : w.size ≤ t.size := by
  obtain ⟨x, hx, rfl⟩ := List.mem_map.1 h
  have h1 := wl_total c t.data.toList
  have h2 := total_mem hx
  have h3 : 0 < (wl c t.data.toList).length := List.length_pos_iff.2 (wl_ne _ _)
  show x.length ≤ t.data.toList.length
  omega
/-- The cells that a word spells. -/
def cellsW (w : ByteArray) : List Int := w.data.toList.map fun b => (b.toNat : Int) - 48
def cellsY (y : List ByteArray) : List Int := y.flatMap cellsW
theorem cellsY_len (y : List (List UInt8)) : (cellsY (y.map mk)).length = total y := by
  induction y with
  | nil => rfl
  | cons a y ih =>
    rw [List.map_cons, cellsY, List.flatMap_cons, List.length_append, total_cons]
    rw [cellsY] at ih
    rw [ih]
    show (a.map _).length + _ = _
    rw [List.length_map]
theorem cellsY_take (y : List ByteArray) (i : Nat) : (cellsY (y.take i)).length ≤ (cellsY y).length := by
  have h : cellsY y = cellsY (y.take i) ++ cellsY (y.drop i) := by
    unfold cellsY
    rw [← List.flatMap_append, List.take_append_drop]
  rw [h, List.length_append]; omega
theorem words_len {c : UInt8} {t a b : ByteArray} {y : List ByteArray} (h : words c t = a :: b :: y) : (cellsY y).length ≤ t.size ∧ y.length ≤ t.size := by
  unfold words at h
  have h1 := wl_total c t.data.toList
  have hz : t.data.toList.length = t.size := rfl
  generalize wl c t.data.toList = ws at h h1
  obtain _ | ⟨x, _ | ⟨z, ws⟩⟩ := ws
  · cases h
  · cases h
  · simp only [List.map_cons, List.cons.injEq] at h
    obtain ⟨_, _, rfl⟩ := h
    rw [total_cons, total_cons] at h1
    simp only [List.length_cons] at h1
    rw [cellsY_len, List.length_map]
    omega
theorem step_cell {w : ByteArray} {j : Nat} (hj : j < w.size) (s : List Int) : s ++ (w.data.toList.take j).map (fun b => (b.toNat : Int) - 48) ++ [wrap64 (wrap64 (bt w (j : Int)) - 48)] = s ++ (w.data.toList.take (j + 1)).map (fun b => (b.toNat : Int) - 48) := by
  have hi : j < w.data.toList.length := hj
  have hb := bt_get w j hi
  have hlt := (w.data.toList[j]).toNat_lt
  have e1 : wrap64 ((w.data.toList[j]).toNat : Int) = ((w.data.toList[j]).toNat : Int) := wrap_in (by omega) (by omega)
  have e2 : wrap64 (((w.data.toList[j]).toNat : Int) - 48) = ((w.data.toList[j]).toNat : Int) - 48 := wrap_in (by omega) (by omega)
  rw [List.take_succ_eq_append_getElem hi, List.map_append, hb, e1, e2, List.append_assoc]
  rfl
theorem take_cells (w : ByteArray) : (w.data.toList.take w.size).map (fun b => (b.toNat : Int) - 48) = cellsW w := by
  rw [List.take_of_length_le (show w.data.toList.length ≤ w.size from Nat.le_refl _)]
  rfl
theorem cellsY_succ {y : List ByteArray} {i : Nat} (h : i < y.length) : cellsY (y.take i) ++ cellsW (y.getD i ByteArray.empty) = cellsY (y.take (i + 1)) := by
  have hg : y.getD i ByteArray.empty = y[i] := by simp [List.getD_eq_getElem?_getD, List.getElem?_eq_getElem h]
  unfold cellsY
  rw [hg, List.take_succ_eq_append_getElem h, List.flatMap_append, List.flatMap_cons, List.flatMap_nil, List.append_nil]
section
variable {t a b : ByteArray} {y : List ByteArray} {p r c : Int} {ρ : Int × Int × Int × List Int × Bool}
theorem cells_i (hl : (cellsY y).length ≤ 1048576) (hy : y.length ≤ 1048576) (h : Ev (fun k => impl_ParseMatrix.l0 k t y (y.length : Int) (y.length : Int) p r c (cellsY y)) ρ) :
    Ev (fun k => impl_ParseMatrix.l0 k t y (y.length : Int) 0 p r c []) ρ := by
  have key := loop_reach (fun k s i => impl_ParseMatrix.l0 k t y (y.length : Int) i p r c s) y.length (fun s i => s ++ cellsW (y.getD i ByteArray.empty)) (fun i s => s = cellsY (y.take i))
    (fun i s hi hs => by
      refine ⟨by rw [hs, cellsY_succ hi], fun r' hr => ?_⟩
      have hb : s.length + (cellsW (y.getD i ByteArray.empty)).length ≤ 1048576 := by
        have := cellsY_take y (i + 1)
        rw [← cellsY_succ hi, List.length_append, ← hs] at this
        omega
      have hrd : rdOf ByteArray.empty y (i : Int) = y.getD i ByteArray.empty := by unfold rdOf; rw [Int.toNat_natCast]
      generalize y.getD i ByteArray.empty = w at hr hb hrd
      have hz : (cellsW w).length = w.size := by unfold cellsW; rw [List.length_map]; rfl
      have inner := loop_reach (fun k s' j => impl_ParseMatrix.l1 k t w j y (y.length : Int) (i : Int) p r c s') w.size (fun s' j => s' ++ [wrap64 (wrap64 (bt w (j : Int)) - 48)]) (fun j s' => s' = s ++ (w.data.toList.take j).map (fun b => (b.toNat : Int) - 48))
        (fun j s' hj hs' => by
          refine ⟨by rw [hs', step_cell hj], fun r'' hr'' => ?_⟩
          have hlen : s'.length < 17592186044416 := by rw [hs', List.length_append, List.length_map, List.length_take]; omega
          simp only [impl_ParseMatrix.l1, show ((j : Int) < (w.size : Int)) by omega, show (0 : Int) ≤ (j : Int) by omega, hlen, if_true, wrap_succ (show j < 9223372036854775807 by omega)]
          exact hr'') s (by simp)
      simp only [impl_ParseMatrix.l0, show ((i : Int) < (y.length : Int)) by omega, show (0 : Int) ≤ (i : Int) by omega, if_true, hrd]
      refine inner.2 _ (Ev.succ ?_)
      rw [inner.1, take_cells]
      simp only [impl_ParseMatrix.l1, show ¬ ((w.size : Int) < (w.size : Int)) by omega, if_false, wrap_succ (show i < 9223372036854775807 by omega)]
      exact hr) [] (by simp [cellsY])
  refine key.2 _ ?_
  rw [key.1, List.take_of_length_le (Nat.le_refl _)]
  exact h
theorem cells_s {o1 o2 : Bool} (hl : (cellsY y).length ≤ 1048576) (hy : y.length ≤ 1048576) (h : Ev (fun k => spec_ParseMatrix.l0 k t (a :: b :: y) o1 o2 ((y.length : Int) + 2) p r c (cellsY y)) ρ) :
    Ev (fun k => spec_ParseMatrix.l0 k t (a :: b :: y) o1 o2 2 p r c []) ρ := by
  have key := loop_reach (fun k s i => spec_ParseMatrix.l0 k t (a :: b :: y) o1 o2 (i + 2) p r c s) y.length (fun s i => s ++ cellsW (y.getD i ByteArray.empty)) (fun i s => s = cellsY (y.take i))
    (fun i s hi hs => by
      refine ⟨by rw [hs, cellsY_succ hi], fun r' hr => ?_⟩
      have hb : s.length + (cellsW (y.getD i ByteArray.empty)).length ≤ 1048576 := by
        have := cellsY_take y (i + 1)
        rw [← cellsY_succ hi, List.length_append, ← hs] at this
        omega
      have hrd : rdOf ByteArray.empty (a :: b :: y) ((i : Int) + 2) = y.getD i ByteArray.empty := by
        unfold rdOf
        rw [show ((i : Int) + 2).toNat = i + 1 + 1 by omega, List.getD_cons_succ, List.getD_cons_succ]
      have hc : ((i : Int) + 2) < (((a :: b :: y).length : Nat) : Int) := by simp only [List.length_cons]; omega
      generalize y.getD i ByteArray.empty = w at hr hb hrd
      have hz : (cellsW w).length = w.size := by unfold cellsW; rw [List.length_map]; rfl
      have inner := loop_reach (fun k s' j => spec_ParseMatrix.l1 k t (a :: b :: y) o1 o2 ((i : Int) + 2) j p r c s') w.size (fun s' j => s' ++ [wrap64 (wrap64 (bt w (j : Int)) - 48)]) (fun j s' => s' = s ++ (w.data.toList.take j).map (fun b => (b.toNat : Int) - 48))
        (fun j s' hj hs' => by
          refine ⟨by rw [hs', step_cell hj], fun r'' hr'' => ?_⟩
          have hlen : s'.length < 17592186044416 := by rw [hs', List.length_append, List.length_map, List.length_take]; omega
          simp only [spec_ParseMatrix.l1, hrd, hc, show (0 : Int) ≤ (i : Int) + 2 by omega, show ((j : Int) < (w.size : Int)) by omega, show (0 : Int) ≤ (j : Int) by omega, hlen, if_true, wrap_succ (show j < 9223372036854775807 by omega)]
          exact hr'') s (by simp)
      simp only [spec_ParseMatrix.l0, hc, if_true]
      refine inner.2 _ (Ev.succ ?_)
      rw [inner.1, take_cells]
      simp only [spec_ParseMatrix.l1, hrd, hc, show (0 : Int) ≤ (i : Int) + 2 by omega, if_true, show ¬ ((w.size : Int) < (w.size : Int)) by omega, if_false]
      rw [wrap_in (show -9223372036854775808 ≤ (i : Int) + 2 + 1 by omega) (by omega), show (i : Int) + 2 + 1 = ((i + 1 : Nat) : Int) + 2 by omega]
      exact hr) [] (by simp [cellsY])
  have h2 := key.2 ρ (by
    rw [key.1, List.take_of_length_le (Nat.le_refl _)]
    exact h)
  simp only [Int.zero_add] at h2
  exact h2
end
theorem text_eq {x t : ByteArray} : x.toList = t.toList ↔ x = t := by
  constructor
  · intro h
    rw [Lib.toList_data, Lib.toList_data] at h
    rw [← Lib.mk_data x, ← Lib.mk_data t, h]
  · intro h; rw [h]
/-- What is read of a text. -/
def parseM (t : ByteArray) : Int × Int × Int × List Int × Bool :=
  match words 32 t with
  | a :: b :: y => match words 120 b with
    | [u, v] => if isMatrix (within a 0 999999).1 (within u 0 999999).1 (within v 0 999999).1 (cellsY y) = true ∧ textI (within a 0 999999).1 (within u 0 999999).1 (within v 0 999999).1 (cellsY y) = t then
        ((within a 0 999999).1, (within u 0 999999).1, (within v 0 999999).1, cellsY y, true) else (0, 0, 0, [], false)
    | _ => (0, 0, 0, [], false)
  | _ => (0, 0, 0, [], false)
theorem Number_i {s : ByteArray} (h : s.size ≤ 1048576) : impl_ParseNumber.f s = some (within s 0 999999) := by
  unfold impl_ParseNumber.f
  rw [if_pos (by omega)]
theorem Parse_i (t : ByteArray) (h : t.size ≤ 1048576) : Ev (fun k => impl_ParseMatrix.f k t) (parseM t) := by
  have hs := Split_i t 32 h
  rw [show ((32 : UInt8).toNat : Int) = 32 from rfl] at hs
  unfold impl_ParseMatrix.f parseM
  rw [hs]
  have hw : ∀ w ∈ words 32 t, w.size ≤ 1048576 := fun w hw => Nat.le_trans (word_size hw) h
  have hlen := @words_len 32 t
  generalize words 32 t = ws at hw hlen
  obtain _ | ⟨a, _ | ⟨b, y⟩⟩ := ws
  · simp only [Option.bind_some, List.length_nil, show (((0 : Nat) : Int) < 2) by omega, if_true]; exact Ev.now _
  · simp only [Option.bind_some, List.length_cons, List.length_nil, show (((0 + 1 : Nat) : Int) < 2) by omega, if_true]; exact Ev.now _
  have ha := hw a (by simp)
  have hb := hw b (by simp)
  obtain ⟨hl, hy⟩ := hlen rfl
  have hr1 : rdOf ByteArray.empty (a :: b :: y) 1 = b := rfl
  have hr0 : rdOf ByteArray.empty (a :: b :: y) 0 = a := rfl
  have hs1 := Split_i b 120 hb
  rw [show ((120 : UInt8).toNat : Int) = 120 from rfl] at hs1
  have hc1 : ¬ (((a :: b :: y).length : Nat) : Int) < 2 := by simp only [List.length_cons]; omega
  have hc2 : 1 < (((a :: b :: y).length : Nat) : Int) := by simp only [List.length_cons]; omega
  have hc3 : 0 < (((a :: b :: y).length : Nat) : Int) := by simp only [List.length_cons]; omega
  have hc4 : 2 ≤ (((a :: b :: y).length : Nat) : Int) := by simp only [List.length_cons]; omega
  have hw1 : ∀ w ∈ words 120 b, w.size ≤ 1048576 := fun w hw => Nat.le_trans (word_size hw) hb
  simp only [Option.bind_some, hc1, hc2, hc3, hc4, if_true, if_false, hr1, hr0, hs1, Number_i ha, List.drop_succ_cons, List.drop_zero]
  generalize words 120 b = sz at hw1
  obtain _ | ⟨u, _ | ⟨v, _ | ⟨x, sz⟩⟩⟩ := sz
  · simp only [List.length_nil, show ¬ (((0 : Nat) : Int) = 2) by omega, if_false]; exact Ev.now _
  · simp only [List.length_cons, List.length_nil, show ¬ (((0 + 1 : Nat) : Int) = 2) by omega, if_false]; exact Ev.now _
  · have hu := hw1 u (by simp)
    have hv := hw1 v (by simp)
    have hq1 : rdOf ByteArray.empty [u, v] 1 = v := rfl
    have hq0 : rdOf ByteArray.empty [u, v] 0 = u := rfl
    simp only [List.length_cons, List.length_nil, show (((0 + 1 + 1 : Nat) : Int) = 2) by omega, show (0 : Int) < ((0 + 1 + 1 : Nat) : Int) by omega, show (1 : Int) < ((0 + 1 + 1 : Nat) : Int) by omega, if_true, hq0, hq1, Number_i hu, Number_i hv, Option.bind_some]
    refine cells_i (by omega) (by omega) (Ev.succ ?_)
    simp only [impl_ParseMatrix.l0, show ¬ ((y.length : Int) < (y.length : Int)) by omega, if_false]
    refine Ev.bind (IsMatrix_i _ _ _ _) ?_
    by_cases hm : isMatrix (within a 0 999999).1 (within u 0 999999).1 (within v 0 999999).1 (cellsY y) = true
    · simp only [hm, if_true, true_and]
      refine Ev.bind (MatrixText_i _ _ _ _) ?_
      simp only [text_eq]
      split
      · exact Ev.now _
      · exact Ev.now _
    · simp only [hm, if_false, false_and]; exact Ev.now _
  · have hc : ¬ (((u :: v :: x :: sz).length : Nat) : Int) = 2 := by simp only [List.length_cons]; omega
    simp only [hc, if_false]; exact Ev.now _
theorem text_parts {p r c : Int} {l : List Int} {t : ByteArray} (ht : t ≠ ⟨#[]⟩) (h : textI p r c l = t) : ∃ P R C : Nat, p = P ∧ r = R ∧ c = C ∧ P < 10 ∧ R < 10 ∧ C < 10 ∧ isMatrix p r c l = true ∧ t = matT l P R C := by
  cases hm : isMatrix p r c l
  · exact absurd (by rw [← h]; unfold textI; rw [hm]; rfl) ht
  obtain ⟨R, C, rfl, rfl, hR, hC, hl, h2, h7, hf, hx⟩ := matrix_parts hm
  obtain ⟨P, rfl⟩ := Int.eq_ofNat_of_zero_le (show 0 ≤ p by omega)
  refine ⟨P, R, C, rfl, rfl, rfl, by omega, by omega, by omega, rfl, ?_⟩
  rw [← h]; unfold textI; rw [hm]; rfl
theorem within_dg {n : Nat} (h : n < 10) : within (dg n) 0 999999 = ((n : Int), true) := by
  have := Number_dg h
  rw [Number_i (by show 1 ≤ _; omega)] at this
  exact Option.some.inj this
theorem Parse_s (t : ByteArray) (h : t.size ≤ 1048576) : Ev (fun k => spec_ParseMatrix.f k t) (parseM t) := by
  have hs := Split_s t 32 h
  rw [show ((32 : UInt8).toNat : Int) = 32 from rfl] at hs
  unfold spec_ParseMatrix.f parseM
  refine Ev.bind hs ?_
  have hw : ∀ w ∈ words 32 t, w.size ≤ 1048576 := fun w hw => Nat.le_trans (word_size hw) h
  have hlen := @words_len 32 t
  have hmat : ∀ (l : List Int) (P R C : Nat), P < 10 → R < 10 → C < 10 → t = matT l P R C → ∃ b y, words 32 t = dg P :: b :: y ∧ words 120 b = [dg R, dg C] := fun l P R C h1 h2 h3 e => by rw [e]; exact matT_words l h1 h2 h3
  have hne : (∃ a b y, words 32 t = a :: b :: y) → t ≠ ⟨#[]⟩ := by
    rintro ⟨a, b, y, e⟩ rfl
    cases e
  generalize words 32 t = ws at hw hlen hmat hne
  obtain _ | ⟨a, _ | ⟨b, y⟩⟩ := ws
  · simp only [Option.bind_some, List.length_nil, show (((0 : Nat) : Int) < 2) by omega, if_true]; exact Ev.now _
  · simp only [Option.bind_some, List.length_cons, List.length_nil, show (((0 + 1 : Nat) : Int) < 2) by omega, if_true]; exact Ev.now _
  have hne1 := hne ⟨a, b, y, rfl⟩
  clear hne
  have ha := hw a (by simp)
  have hb := hw b (by simp)
  obtain ⟨hl, hy⟩ := hlen rfl
  have hr1 : rdOf ByteArray.empty (a :: b :: y) 1 = b := rfl
  have hr0 : rdOf ByteArray.empty (a :: b :: y) 0 = a := rfl
  have hs1 := Split_s b 120 hb
  rw [show ((120 : UInt8).toNat : Int) = 120 from rfl] at hs1
  have hc1 : ¬ (((a :: b :: y).length : Nat) : Int) < 2 := by simp only [List.length_cons]; omega
  have hc2 : 1 < (((a :: b :: y).length : Nat) : Int) := by simp only [List.length_cons]; omega
  have hc3 : 0 < (((a :: b :: y).length : Nat) : Int) := by simp only [List.length_cons]; omega
  have hc5 : ¬ ((y.length : Int) + 2 < (((a :: b :: y).length : Nat) : Int)) := by simp only [List.length_cons]; omega
  have hmat' : ∀ (l : List Int) (P R C : Nat), P < 10 → R < 10 → C < 10 → t = matT l P R C → a = dg P ∧ words 120 b = [dg R, dg C] := fun l P R C h1 h2 h3 e => by
    obtain ⟨b', y', e1, e2⟩ := hmat l P R C h1 h2 h3 e
    injection e1 with e3 e4
    injection e4 with e5 e6
    exact ⟨e3, by rw [e5]; exact e2⟩
  clear hmat hw hlen
  obtain ⟨⟨p, o0⟩, hp, hT0⟩ := ParseInt_tot a
  simp only [hc1, hc2, hc3, if_true, if_false, hr1, hr0]
  refine Ev.bind hs1 (Ev.bind hp ?_)
  generalize words 120 b = sz at hmat'
  have no : ∀ x6 : Int, Ev (fun k => spec_ParseMatrix.j0 k t (a :: b :: y) sz x6 true) (0, 0, 0, [], false) := fun x6 => Ev.succ (by simp only [spec_ParseMatrix.j0, if_true]; exact Ev.now _)
  by_cases hz : ∃ u v, sz = [u, v]
  · obtain ⟨u, v, rfl⟩ := hz
    have hq1 : rdOf ByteArray.empty [u, v] 1 = v := rfl
    have hq0 : rdOf ByteArray.empty [u, v] 0 = u := rfl
    obtain ⟨⟨r, o1⟩, hr, hT1⟩ := ParseInt_tot u
    obtain ⟨⟨c, o2⟩, hc, hT2⟩ := ParseInt_tot v
    simp only
    by_cases hM : ∃ (l : List Int) (P R C : Nat), P < 10 ∧ R < 10 ∧ C < 10 ∧ t = matT l P R C
    · obtain ⟨l, P, R, C, hP, hR, hC, e⟩ := hM
      obtain ⟨e1, e2⟩ := hmat' l P R C hP hR hC e
      injection e2 with e3 e4
      injection e4 with e5 e6
      subst e1 e3 e5
      have f0 := Ev.uniq hp (ParseInt_dg hP)
      have f1 := Ev.uniq hr (ParseInt_dg hR)
      have f2 := Ev.uniq hc (ParseInt_dg hC)
      simp only [Prod.mk.injEq] at f0 f1 f2
      obtain ⟨rfl, rfl⟩ := f0
      obtain ⟨rfl, rfl⟩ := f1
      obtain ⟨rfl, rfl⟩ := f2
      simp only [within_dg hP, within_dg hR, within_dg hC, if_true]
      refine Ev.succ ?_
      simp only [spec_ParseMatrix.j0, List.length_cons, List.length_nil, show ((((0 + 1 + 1 : Nat) : Int) != 2) = false) from rfl, Bool.false_eq_true, if_false, show (0 : Int) < ((0 + 1 + 1 : Nat) : Int) by omega, show (1 : Int) < ((0 + 1 + 1 : Nat) : Int) by omega, if_true, hq0, hq1]
      refine Ev.bind hr (Ev.bind hc ?_)
      refine cells_s (by omega) (by omega) (Ev.succ ?_)
      simp only [spec_ParseMatrix.l0, hc5, if_false, if_true]
      refine Ev.bind (MatrixText_s _ _ _ _) ?_
      simp only [text_eq]
      by_cases ht : textI (P : Int) R C (cellsY y) = t
      · obtain ⟨_, _, _, _, _, _, _, _, _, hm, _⟩ := text_parts hne1 ht
        simp only [ht, hm, and_self, if_true]; exact Ev.now _
      · simp only [ht, and_false, if_false]; exact Ev.now _
    · have hno : ∀ (p r c : Int) (l : List Int), ¬ textI p r c l = t := fun p r c l ht => by
        obtain ⟨P, R, C, _, _, _, hP, hR, hC, _, e⟩ := text_parts hne1 ht
        exact hM ⟨l, P, R, C, hP, hR, hC, e⟩
      simp only [hno, and_false, if_false]
      cases o0
      · simp only [Bool.false_eq_true, if_false]; exact no _
      simp only [if_true]
      refine Ev.succ ?_
      simp only [spec_ParseMatrix.j0, List.length_cons, List.length_nil, show ((((0 + 1 + 1 : Nat) : Int) != 2) = false) from rfl, Bool.false_eq_true, if_false, show (0 : Int) < ((0 + 1 + 1 : Nat) : Int) by omega, show (1 : Int) < ((0 + 1 + 1 : Nat) : Int) by omega, if_true, hq0, hq1]
      refine Ev.bind hr (Ev.bind hc ?_)
      refine cells_s (by omega) (by omega) (Ev.succ ?_)
      simp only [spec_ParseMatrix.l0, hc5, if_false]
      cases o1
      · simp only [Bool.false_eq_true, if_false]; exact Ev.now _
      cases o2
      · simp only [if_true, Bool.false_eq_true, if_false]; exact Ev.now _
      simp only [if_true]
      refine Ev.bind (MatrixText_s _ _ _ _) ?_
      simp only [text_eq, hno, if_false]; exact Ev.now _
  · have hn : ((sz.length : Int) != 2) = true := by
      refine bne_iff_ne.mpr fun e => hz ?_
      obtain _ | ⟨u, _ | ⟨v, _ | ⟨x, sz⟩⟩⟩ := sz
      · simp at e
      · simp at e
      · exact ⟨u, v, rfl⟩
      · simp only [List.length_cons] at e; omega
    have hres : (match sz with
      | [u, v] => if isMatrix (within a 0 999999).1 (within u 0 999999).1 (within v 0 999999).1 (cellsY y) = true ∧ textI (within a 0 999999).1 (within u 0 999999).1 (within v 0 999999).1 (cellsY y) = t then
          ((within a 0 999999).1, (within u 0 999999).1, (within v 0 999999).1, cellsY y, true) else ((0, 0, 0, [], false) : Int × Int × Int × List Int × Bool)
      | _ => (0, 0, 0, [], false)) = (0, 0, 0, [], false) := by
      obtain _ | ⟨u, _ | ⟨v, _ | ⟨x, sz⟩⟩⟩ := sz
      · rfl
      · rfl
      · exact absurd ⟨u, v, rfl⟩ hz
      · rfl
    simp only
    rw [hres]
    simp only [hn]
    split
    · exact no _
    · exact no _
theorem parseM_length (t : ByteArray) : (parseM t).2.2.2.1.length ≤ 64 := by
  unfold parseM
  split
  · split
    · split
      · rename_i hm
        obtain ⟨R, C, _, _, hR, hC, hl, _⟩ := matrix_parts hm.1
        have := Nat.mul_le_mul hR hC
        show (cellsY _).length ≤ 64
        omega
      · exact Nat.zero_le _
    · exact Nat.zero_le _
  · exact Nat.zero_le _
end Go.Proofs.YtjlbfbpjcmjdfaaDoor.L
end
