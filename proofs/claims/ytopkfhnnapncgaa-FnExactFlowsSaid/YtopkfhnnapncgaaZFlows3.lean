/- Several texts of this session in one: Fx9, LSets, LLists, LGraph, LPower, LFlows, PuFnExactFlows, LawFnExactFlows. Conditions: as each theorem says. -/
import Derived.Test.YtopkfhnnapncgaaZFlows0
import Derived.Test.YtopkfhnnapncgaaZFlows2
import Derived.Test.YtopkfhnnapncgaaZFlows1
import Derived.Test.YtopkfhnnapncgaaRows
import Derived.WalkKit
import Derived.ProofKit
import Derived.OpenShut
import Derived.ShutString
import Derived.ChangeOld
import Derived.Below
import Derived.SizedLaws
import Derived.Lib.SmallJoins
section
namespace Go.Proofs.Ytopkfhnnapncgaa.F
open Go.RowKit Go.Proofs.YtopkfhnnapncgaaW.PrintWords Go.Proofs.YtopkfhnnapncgaaW.PrintLast Go.Proofs.YtopkfhnnapncgaaW.PrintMore
attribute [local go_sem] max2_int min2_int max_two min_two max_three min_three max_four min_four   -- for this text's walks alone
set_option linter.unusedVariables false
set_option linter.unusedSimpArgs false

def spec_IsSet.f (a0 : Int) (a1 : Int) : Option (Bool) := (spec_l1In.f a0 0 8).bind fun t241 => (if t241 = true then (if 0 ≤ (IntKind.u64.wrap (a0)) then ((spec_l1In.f a1 0 (wrap64 ((shl .i64 1 (IntKind.u64.wrap (a0))) - 1))).bind fun t242 => (some t242)) else (none)) else (some false))
set_option maxHeartbeats 8000000 in
set_option maxRecDepth 100000 in
theorem spec_IsSet.calls (a0 : Int) (a1 : Int) (r : Bool) (w : World) (h : spec_IsSet.f a0 a1 = some r) :
    Calls Try.prog 49 #[.int .i64 a0, .int .i64 a1] w fun e w' => e = .returned (.bool r) ∧ Drawn0 w w' := by
  have H : ((spec_l1In.f a0 0 8).bind fun t241 => (if t241 = true then (if 0 ≤ (IntKind.u64.wrap (a0)) then ((spec_l1In.f a1 0 (wrap64 ((shl .i64 1 (IntKind.u64.wrap (a0))) - 1))).bind fun t242 => (some t242)) else (none)) else (some false))) = some r := h
  clear h
  replace H := Option.bind_eq_some_iff.mp H
  obtain ⟨t241, A30, H⟩ := H
  replace H : (if t241 = true then (if 0 ≤ (IntKind.u64.wrap (a0)) then ((spec_l1In.f a1 0 (wrap64 ((shl .i64 1 (IntKind.u64.wrap (a0))) - 1))).bind fun t242 => (some t242)) else (none)) else (some false)) = some r := H
  have A3 := Aside0.mk A30
  clear A30
  by_cases c4 : t241 = true
  · subst c4
    have H1 : (if 0 ≤ (IntKind.u64.wrap (a0)) then ((spec_l1In.f a1 0 (wrap64 ((shl .i64 1 (IntKind.u64.wrap (a0))) - 1))).bind fun t242 => (some t242)) else (none)) = some r := by rw [if_pos rfl] at H; exact H
    clear H
    have H := H1
    clear H1
    obtain ⟨ji5, hji5⟩ : ∃ j_ : Int, (IntKind.u64.wrap (a0)) = j_ := ⟨_, rfl⟩
    replace H : (if 0 ≤ (ji5) then ((spec_l1In.f a1 0 (wrap64 ((shl .i64 1 (ji5)) - 1))).bind fun t242 => (some t242)) else (none)) = some r := by first | (rw [hji5] at H; exact H) | (simp only [hji5] at H ⊢; exact H)
    (try rw [hji5] at A3)
    by_cases c6 : 0 ≤ (ji5)
    · rw [if_pos c6] at H
      have c6b0 := eq_true c6
      have c6b1 : decide (0 ≤ (ji5)) = true := decide_eq_true c6
      clear c6
      obtain ⟨ji7, hji7⟩ : ∃ j_ : Int, (shl .i64 1 (ji5)) = j_ := ⟨_, rfl⟩
      replace H : ((spec_l1In.f a1 0 (wrap64 ((ji7) - 1))).bind fun t242 => (some t242)) = some r := by first | (rw [hji7] at H; exact H) | (simp only [hji7] at H ⊢; exact H)
      (try rw [hji7] at A3)
      have hji7_ : (IntKind.i64.wrap (1 * 2 ^ min (ji5).toNat 64)) = ji7 := hji7
      have hji7z : (ji5) ≤ 64 → (IntKind.i64.wrap (1 * 2 ^ (ji5).toNat)) = ji7 := shl_small hji7
      have hji7u : (IntKind.i64.wrap (2 ^ min (ji5).toNat 64)) = ji7 := by have h_ := hji7_; rw [Int.one_mul] at h_; exact h_
      have hji7v : (ji5) ≤ 64 → (IntKind.i64.wrap (2 ^ (ji5).toNat)) = ji7 := fun hle_ => by have h_ := hji7z hle_; rw [Int.one_mul] at h_; exact h_
      have hji7y : (wrap64 (1 * 2 ^ min (ji5).toNat 64)) = ji7 := (i64_w _).symm.trans hji7_
      have hji7x : (ji5) ≤ 64 → (wrap64 (1 * 2 ^ (ji5).toNat)) = ji7 := fun h_ => (i64_w _).symm.trans (hji7z h_)
      replace H := Option.bind_eq_some_iff.mp H
      obtain ⟨t242, A80, H⟩ := H
      replace H : (some t242) = some r := H
      have A8 := Aside0.mk A80
      clear A80
      obtain rfl := Option.some.inj H
      go_enter Try.func49, Try.ntmps49
      go_wp2_with (first | ((with_reducible refine gate_callee (f := 43) rfl ?_); refine goesL_ (some 6) rfl rfl Try.func43 (by kernel_rfl) rfl #[.int .i64 a0, .int .i64 0, .int .i64 8] rfl sqM ?_; (with_reducible refine (spec_l1In.calls a0 0 8 true _ A3.out).mono ?_); rintro e w' ⟨rfl, ⟨nd, rfl⟩⟩; refine ⟨_, rfl, ?_⟩) | (go_at_call 43; (try simp only [i64_w, i32_w]); (with_reducible refine (spec_l1In.calls a1 0 (wrap64 ((ji7) - 1)) t242 _ A8.out).mono ?_); rintro e w' ⟨rfl, ⟨nd, rfl⟩⟩))
      go_ret
      exact ⟨by first | rfl | (simp; done) | (simp only [← hji5, ← hji7] <;> (first | rfl | simp)) | (simp [*]; done), by repeat (first | exact Drawn0.refl _ | apply Drawn0.step)⟩
    · rw [if_neg c6] at H
      exact absurd H (by simp)
  · replace c4 := Bool.eq_false_iff.mpr c4
    subst c4
    have H1 : (some false) = some r := by rw [if_neg (show ¬ (false = true) by decide)] at H; exact H
    clear H
    have H := H1
    clear H1
    obtain rfl := Option.some.inj H
    go_enter Try.func49, Try.ntmps49
    go_wp2_with (first | ((with_reducible refine gate_callee (f := 43) rfl ?_); refine goesL_ (some 6) rfl rfl Try.func43 (by kernel_rfl) rfl #[.int .i64 a0, .int .i64 0, .int .i64 8] rfl sqM ?_; (with_reducible refine (spec_l1In.calls a0 0 8 false _ A3.out).mono ?_); rintro e w' ⟨rfl, ⟨nd, rfl⟩⟩; refine ⟨_, rfl, ?_⟩))
    go_ret
    exact ⟨sqD, by repeat (first | exact Drawn0.refl _ | apply Drawn0.step)⟩

def spec_l2Has.f (a0 : Int) (a1 : Int) : Option (Bool) := if 0 ≤ (IntKind.u64.wrap (a1)) then (some ((Go.bits .and .i64 (shr .i64 a0 (IntKind.u64.wrap (a1))) 1) == 1)) else (none)
set_option maxHeartbeats 8000000 in
set_option maxRecDepth 100000 in
theorem spec_l2Has.calls (a0 : Int) (a1 : Int) (r : Bool) (w : World) (h : spec_l2Has.f a0 a1 = some r) :
    Calls Try.prog 70 #[.int .i64 a0, .int .i64 a1] w fun e w' => e = .returned (.bool r) ∧ Drawn0 w w' := by
  have H : (if 0 ≤ (IntKind.u64.wrap (a1)) then (some ((Go.bits .and .i64 (shr .i64 a0 (IntKind.u64.wrap (a1))) 1) == 1)) else (none)) = some r := h
  clear h
  obtain ⟨ji3, hji3⟩ : ∃ j_ : Int, (IntKind.u64.wrap (a1)) = j_ := ⟨_, rfl⟩
  replace H : (if 0 ≤ (ji3) then (some ((Go.bits .and .i64 (shr .i64 a0 (ji3)) 1) == 1)) else (none)) = some r := by first | (rw [hji3] at H; exact H) | (simp only [hji3] at H ⊢; exact H)
  by_cases c4 : 0 ≤ (ji3)
  · rw [if_pos c4] at H
    have c4b0 := eq_true c4
    have c4b1 : decide (0 ≤ (ji3)) = true := decide_eq_true c4
    clear c4
    obtain ⟨ji5, hji5⟩ : ∃ j_ : Int, (shr .i64 a0 (ji3)) = j_ := ⟨_, rfl⟩
    replace H : (some ((Go.bits .and .i64 (ji5) 1) == 1)) = some r := by first | (rw [hji5] at H; exact H) | (simp only [hji5] at H ⊢; exact H)
    have hji5_ : (a0 / 2 ^ min (ji3).toNat 64) = ji5 := hji5
    have hji5z : (ji3) ≤ 64 → (a0 / 2 ^ (ji3).toNat) = ji5 := shr_small hji5
    obtain rfl := Option.some.inj H
    go_enter Try.func70, Try.ntmps70
    go_wp2
    go_ret
    exact ⟨by first | rfl | (simp; done) | (simp only [← hji3, ← hji5] <;> (first | rfl | simp)) | (simp [*]; done), by repeat (first | exact Drawn0.refl _ | apply Drawn0.step)⟩
  · rw [if_neg c4] at H
    exact absurd H (by simp)

mutual
def spec_l4Rank.l0 : Nat → Int → Int → Int → Int → List Int → Int → Int → Option (Int)
  | 0, _, _, _, _, _, _, _ => none
  | k + 1, x0, x1, x2, x4, x11, x12, x13 => if x13 < x2 then ((spec_l2Has.f x4 x13).bind fun t249 => (if t249 = true then (spec_l4Rank.l1 k x0 x1 x2 x4 x11 x12 x13 x12) else (spec_l4Rank.l0 k x0 x1 x2 x4 x11 x12 (wrap64 (x13 + 1))))) else (some x12)
def spec_l4Rank.j2 : Nat → Int → Int → Int → Int → List Int → Int → Int → Int → Option (Int)
  | 0, _, _, _, _, _, _, _, _ => none
  | k + 1, x0, x1, x2, x4, x11, x12, x13, x14 => if x14 ≥ x1 then (spec_l4Rank.l0 k x0 x1 x2 x4 x11 x12 (wrap64 (x13 + 1))) else (spec_l4Rank.l2 k x0 x1 x2 x4 x11 x12 x13 x14 0)
def spec_l4Rank.l2 : Nat → Int → Int → Int → Int → List Int → Int → Int → Int → Int → Option (Int)
  | 0, _, _, _, _, _, _, _, _, _ => none
  | k + 1, x0, x1, x2, x4, x11, x12, x13, x14, x15 => if x15 < x2 then (if 0 ≤ (wrap64 ((wrap64 (x14 * x2)) + x15)) then (if (wrap64 ((wrap64 (x14 * x2)) + x15)) < (x11.length : Int) then (if 0 ≤ (wrap64 ((wrap64 (x12 * x2)) + x15)) then (if (wrap64 ((wrap64 (x12 * x2)) + x15)) < (x11.length : Int) then (spec_l4Rank.l2 k x0 x1 x2 x4 ((x11.set ((wrap64 ((wrap64 (x14 * x2)) + x15)) : Int).toNat (rd x11 (wrap64 ((wrap64 (x12 * x2)) + x15)))).set ((wrap64 ((wrap64 (x12 * x2)) + x15)) : Int).toNat (rd x11 (wrap64 ((wrap64 (x14 * x2)) + x15)))) x12 x13 x14 (wrap64 (x15 + 1))) else (none)) else (none)) else (none)) else (none)) else (spec_l4Rank.l3 k x0 x1 x2 x4 x11 x12 x13 (wrap64 (x12 + 1)))
def spec_l4Rank.l3 : Nat → Int → Int → Int → Int → List Int → Int → Int → Int → Option (Int)
  | 0, _, _, _, _, _, _, _, _ => none
  | k + 1, x0, x1, x2, x4, x11, x12, x13, x17 => if x17 < x1 then (if 0 ≤ (wrap64 ((wrap64 (x17 * x2)) + x13)) then (if (wrap64 ((wrap64 (x17 * x2)) + x13)) < (x11.length : Int) then (if 0 ≤ (wrap64 ((wrap64 (x12 * x2)) + x13)) then (if (wrap64 ((wrap64 (x12 * x2)) + x13)) < (x11.length : Int) then (spec_l4Rank.l4 k x0 x1 x2 x4 x11 x12 x13 x17 (rd x11 (wrap64 ((wrap64 (x17 * x2)) + x13))) (rd x11 (wrap64 ((wrap64 (x12 * x2)) + x13))) 0) else (none)) else (none)) else (none)) else (none)) else (spec_l4Rank.l0 k x0 x1 x2 x4 x11 (wrap64 (x12 + 1)) (wrap64 (x13 + 1)))
def spec_l4Rank.l4 : Nat → Int → Int → Int → Int → List Int → Int → Int → Int → Int → Int → Int → Option (Int)
  | 0, _, _, _, _, _, _, _, _, _, _, _ => none
  | k + 1, x0, x1, x2, x4, x11, x12, x13, x17, x18, x19, x20 => if x20 < x2 then (if 0 ≤ (wrap64 ((wrap64 (x17 * x2)) + x20)) then (if (wrap64 ((wrap64 (x17 * x2)) + x20)) < (x11.length : Int) then (if 0 ≤ (wrap64 ((wrap64 (x12 * x2)) + x20)) then (if (wrap64 ((wrap64 (x12 * x2)) + x20)) < (x11.length : Int) then (if x0 = 0 then (none) else (spec_l4Rank.l4 k x0 x1 x2 x4 (x11.set ((wrap64 ((wrap64 (x17 * x2)) + x20)) : Int).toNat (Int.tmod (wrap64 ((Int.tmod (wrap64 ((wrap64 ((rd x11 (wrap64 ((wrap64 (x17 * x2)) + x20))) * x19)) - (wrap64 ((rd x11 (wrap64 ((wrap64 (x12 * x2)) + x20))) * x18)))) x0) + x0)) x0)) x12 x13 x17 x18 x19 (wrap64 (x20 + 1)))) else (none)) else (none)) else (none)) else (none)) else (spec_l4Rank.l3 k x0 x1 x2 x4 x11 x12 x13 (wrap64 (x17 + 1)))
def spec_l4Rank.l1 : Nat → Int → Int → Int → Int → List Int → Int → Int → Int → Option (Int)
  | 0, _, _, _, _, _, _, _, _ => none
  | k + 1, x0, x1, x2, x4, x11, x12, x13, x14 => if x14 < x1 then (if 0 ≤ (wrap64 ((wrap64 (x14 * x2)) + x13)) then (if (wrap64 ((wrap64 (x14 * x2)) + x13)) < (x11.length : Int) then (if (rd x11 (wrap64 ((wrap64 (x14 * x2)) + x13))) = 0 then (spec_l4Rank.l1 k x0 x1 x2 x4 x11 x12 x13 (wrap64 (x14 + 1))) else (spec_l4Rank.j2 k x0 x1 x2 x4 x11 x12 x13 x14)) else (none)) else (none)) else (spec_l4Rank.j2 k x0 x1 x2 x4 x11 x12 x13 x14)
end
def spec_l4Rank.f (k : Nat) (a0 : Int) (a1 : Int) (a2 : Int) (l3 : List Int) (a4 : Int) : Option (Int) := (some (([] : List Int) : List Int)).bind fun y243 => (if y243.length + l3.length < 17592186044416 then (spec_l4Rank.l0 k a0 a1 a2 a4 (y243 ++ l3) 0 0) else (none))
def spec_l4Rank.T25 : Bool × List (List Nat × List Nat) := (true, [([], []), ([], []), ([], []), ([1, 2], [1, 2]), ([], []), ([3, 4], [3, 4]), ([], []), ([], []), ([], []), ([7, 8], [7, 8]), ([], []), ([9, 10], [9, 10]), ([6, 11], [6, 11]), ([12], [12]), ([], []), ([13, 14], [13, 14]), ([], []), ([], []), ([], []), ([17, 18], [17, 18]), ([], []), ([19, 20], [19, 20]), ([16, 21], [16, 21]), ([22], [22]), ([], []), ([23, 24], [23, 24]), ([15, 25], [15, 25]), ([], []), ([26, 27], [26, 27]), ([], []), ([28, 29], [28, 29]), ([], []), ([30, 31], [30, 31]), ([0, 5, 0, 1, 2, 3, 4, 5, 6, 7, 8, 9, 10, 11, 12, 13, 14, 15, 16, 17, 18, 19, 20, 21, 22, 23, 24, 25, 26, 27, 28, 29, 30, 31, 32], [0, 5]), ([33, 32, 0, 1, 2, 3, 4, 5, 6, 7, 8, 9, 10, 11, 12, 13, 14, 15, 16, 17, 18, 19, 20, 21, 22, 23, 24, 25, 26, 27, 28, 29, 30, 31, 32], [32, 33])])
def spec_l4Rank.B25 : List Nat := [0, 0, 0, 6, 0, 30, 0, 0, 0, 384, 0, 1920, 4032, 8128, 0, 32704, 0, 0, 0, 393216, 0, 1966080, 4128768, 8323072, 0, 33488896, 67108800, 0, 268435392, 0, 1073741760, 0, 4294967232, 8589934591, 17179869183]
theorem spec_l4Rank.tab25 : rtab .any (opsOf Try.f57 25) = spec_l4Rank.T25 := by kernel_rfl
theorem spec_l4Rank.bits25 : waitsOk spec_l4Rank.T25.2 spec_l4Rank.B25 = true := by kernel_rfl
set_option maxHeartbeats 8000000 in
set_option maxRecDepth 100000 in
theorem spec_l4Rank.calls (k : Nat) (a0 : Int) (a1 : Int) (a2 : Int) (A3 : Option Addr) (c3 : Nat) (l3 : List Int) (a4 : Int) (r : Int) (w : World) (hr3 : Kd.C (Kd.int .i64) w A3 l3.length l3) (hc3 : l3.length ≤ c3) (h : spec_l4Rank.f k a0 a1 a2 l3 a4 = some r) :
    Calls Try.prog 57 #[.int .i64 a0, .int .i64 a1, .int .i64 a2, .slice A3 l3.length c3, .int .i64 a4] w fun e w' => e = .returned (.int .i64 r) ∧ Below w.heap.size w w' := by
  have HR3 := Aside0.mk hr3
  have HC3 := Aside0.mk hc3
  clear hr3 hc3
  have HB := Aside0.mk (Below.refl w.heap.size w)
  have H : ((some (([] : List Int) : List Int)).bind fun y243 => (if y243.length + l3.length < 17592186044416 then (spec_l4Rank.l0 k a0 a1 a2 a4 (y243 ++ l3) 0 0) else (none))) = some r := h
  clear h
  obtain ⟨y243, hy243⟩ : ∃ y_ : List Int, y_ = (([] : List Int)) := ⟨_, rfl⟩
  replace H : (if y243.length + l3.length < 17592186044416 then (spec_l4Rank.l0 k a0 a1 a2 a4 (y243 ++ l3) 0 0) else (none)) = some r := by first | (rw [hy243]; with_reducible exact H) | (have H2_ := (Option.bind_some _ _).symm.trans H; rw [hy243]; with_reducible exact H2_) | (have H2_ := (Option.bind_some _ _).symm.trans H; with_reducible exact H2_) | with_reducible exact H | (rw [hy243]; exact H) | exact H
  have Ny243 := Aside0.mk hy243
  clear hy243
  by_cases c6 : y243.length + l3.length < 17592186044416
  · rw [if_pos c6] at H
    have LMc6 := Aside0.mk c6
    clear c6
    obtain ⟨y246, hy246⟩ : ∃ y_ : List Int, y_ = (y243 ++ l3) := ⟨_, rfl⟩
    replace H : (spec_l4Rank.l0 k a0 a1 a2 a4 y246 0 0) = some r := by first | (rw [hy246]; with_reducible exact H) | (have H2_ := (Option.bind_some _ _).symm.trans H; rw [hy246]; with_reducible exact H2_) | (have H2_ := (Option.bind_some _ _).symm.trans H; with_reducible exact H2_) | with_reducible exact H | (rw [hy246]; exact H) | exact H
    have Ny246 := Aside0.mk hy246
    clear hy246
    have H' := Aside0.mk H
    clear H
    go_enter Try.func57, Try.ntmps57
    go_wp2_with (first | ((with_reducible refine gate_dst (N := 21) rfl ?_); refine Kd.R_lit (Kd.int .i64) _ 3 ?hg (N := 21) ?hd (xs := ([] : List Int)) (inner := []) (ok := fun _ => True) (okp := fun _ => True) ?hr ?hp (fun _ hk => hk) trivial (Below.refl _ _) (Nat.le_refl _) (by simp) ?_; (case hd => rfl); (case hg => rfl); (case hr => exact sqG); (case hp => exact (Reps.none _ _)); intro v244 w7 ho8 hb hg_ hnew_; clear hg_ hnew_; (first | rw [← Ny243.out] at ho8 | (simp only [Int.reduceToNat] at ho8; rw [← Ny243.out] at ho8)); have n0_ := Aside0.mk (Kd.R_lower ho8 (below_size sqB)); have n1_ := Aside0.mk (below_step sqB hb); clear HB; have HO245 := n0_; have HB := n1_; clear n0_ n1_; clear hb ho8) | ((with_reducible refine gate_builtin (b := .append) (xs := #[.tmp 21, .tmp 22]) rfl ?_); at_builtin; refine Kd.R_append_rows (Kd.int .i64) (w0 := w) w.heap.size rfl (.tmp 21) (.tmp 22) 22 3 (.int .i64 0) 8 rfl Try.underlying22 info3 rfl (by decide) (by omega) v244 y243 l3 _ _ _ (fun _ => True) (fun _ => False) rfl rfl ?aO ?aR (fun _ _ h => h) (fun _ h => h.elim) ?aF ?aB ?aS ?aL ?_; (case aR => exact sqC (Kd.C_below HR3.out HB.out)); (case aB => exact sqB); (case aF => exact (fun _ _ => trivial)); (case aO => exact (sqR HO245.out)); (case aS => exact (below_size sqB)); (case aL => have := LMc6.out; omega); intro v247 w9 ho hb hg hat; rw [← Ny246.out] at ho; have n0_ := Aside0.mk (hb); have n1_ := Aside0.mk (ho); clear HB; clear HO245; have HB := n0_; have HO248 := n1_; clear n0_ n1_; clear ho hb hg hat))
    go_loopg [12, 13] k (fun kq v12 v13 w' => ∃ (x11_1 : List Int) (x12_1 : Int) (x13_1 : Int), v12 = .int .i64 x12_1 ∧ v13 = .int .i64 x13_1 ∧ Aside0 (spec_l4Rank.l0 kq a0 a1 a2 a4 x11_1 x12_1 x13_1 = some r) ∧ Aside0 (kq ≤ k) ∧ Aside0 (Kd.R (Kd.int .i64) 3 w' w.heap.size (fun _ => True) v247 x11_1) ∧ Aside0 (Below w.heap.size w w'))
    case atStart => exact ⟨(y246), (0), (0), (sqD), (sqD), H', ⟨Nat.le_refl _⟩, ⟨sqR HO248.out⟩, ⟨sqB⟩⟩
    case round =>
      clear H'
      try clear p2
      try clear c3
      try clear c5
      try clear c6
      obtain ⟨x11_1, x12_1, x13_1, rfl, rfl, HA, HK1, HO_11, HB⟩ := hrel
      cases gk with
      | zero => exact absurd HA.out (by simp [spec_l4Rank.l0])
      | succ k1 =>
        have H := HA.out
        clear HA
        simp only [spec_l4Rank.l0] at H
        by_cases c10 : x13_1 < a2
        · rw [if_pos c10] at H
          have c10b0 : decide (x13_1 < a2) = true := decide_eq_true c10
          clear c10
          replace H := Option.bind_eq_some_iff.mp H
          obtain ⟨t249, A110, H⟩ := H
          replace H : (if t249 = true then (spec_l4Rank.l1 k1 a0 a1 a2 a4 x11_1 x12_1 x13_1 x12_1) else (spec_l4Rank.l0 k1 a0 a1 a2 a4 x11_1 x12_1 (wrap64 (x13_1 + 1)))) = some r := H
          have A11 := Aside0.mk A110
          clear A110
          by_cases c12 : t249 = true
          · subst c12
            have H1 : (spec_l4Rank.l1 k1 a0 a1 a2 a4 x11_1 x12_1 x13_1 x12_1) = some r := by rw [if_pos rfl] at H; exact H
            clear H
            have H := H1
            clear H1
            have HC13 := Aside0.mk H
            clear H
            go_upto_block 2 with (first | ((with_reducible refine gate_callee (f := 70) rfl ?_); refine goesL_ (some 31) rfl rfl Try.func70 (by kernel_rfl) rfl #[.int .i64 a4, .int .i64 x13_1] rfl sqM ?_; (with_reducible refine (spec_l2Has.calls a4 x13_1 true _ A11.out).mono ?_); rintro e w' ⟨rfl, ⟨nd, rfl⟩⟩; refine ⟨_, rfl, ?_⟩))
            (try simp only [Act.put, List.setIfInBounds_toArray, List.set_cons_zero, List.set_cons_succ])
            go_cut [14] (fun v14 wc => ∃ (kq : Nat) (x14_12 : Int), v14 = .int .i64 x14_12 ∧ Aside0 (spec_l4Rank.j2 kq a0 a1 a2 a4 x11_1 x12_1 x13_1 x14_12 = some r) ∧ Aside0 (kq ≤ k1) ∧ Aside0 (Kd.R (Kd.int .i64) 3 wc w.heap.size (fun _ => True) v247 x11_1) ∧ Aside0 (Below w.heap.size w wc))
            case first =>
              have H := HC13.out
              clear HC13
              have H' := Aside0.mk H
              clear H
              go_wp2
              go_loopg [14] k1 (fun kq v14 w' => ∃ (x14_2 : Int), v14 = .int .i64 x14_2 ∧ Aside0 (spec_l4Rank.l1 kq a0 a1 a2 a4 x11_1 x12_1 x13_1 x14_2 = some r) ∧ Aside0 (kq ≤ k1) ∧ Aside0 (Kd.R (Kd.int .i64) 3 w' w.heap.size (fun _ => True) v247 x11_1) ∧ Aside0 (Below w.heap.size w w'))
              case atStart => exact ⟨(x12_1), (sqD), H', ⟨Nat.le_refl _⟩, ⟨sqR HO_11.out⟩, ⟨sqB⟩⟩
              case round =>
                clear H'
                try clear c1
                try clear p2
                try clear c3
                try clear c5
                try clear c6
                try clear p6
                try clear c7
                try clear c10
                try clear c10b0
                try clear c12
                try clear p2
                obtain ⟨x14_2, rfl, HA, HK2, HO_11, HB⟩ := hrel
                cases gk with
                | zero => exact absurd HA.out (by simp [spec_l4Rank.l1])
                | succ k2 =>
                  have H := HA.out
                  clear HA
                  simp only [spec_l4Rank.l1] at H
                  by_cases c14 : x14_2 < a1
                  · rw [if_pos c14] at H
                    have c14b0 : decide (x14_2 < a1) = true := decide_eq_true c14
                    clear c14
                    (first | rw [c14b0] | (simp only [i64_w, i32_w]; rw [c14b0]) | skip)
                    obtain ⟨ji15, hji15⟩ : ∃ j_ : Int, (wrap64 ((wrap64 (x14_2 * a2)) + x13_1)) = j_ := ⟨_, rfl⟩
                    replace H : (if 0 ≤ (ji15) then (if (ji15) < (x11_1.length : Int) then (if (rd x11_1 (ji15)) = 0 then (spec_l4Rank.l1 k2 a0 a1 a2 a4 x11_1 x12_1 x13_1 (wrap64 (x14_2 + 1))) else (spec_l4Rank.j2 k2 a0 a1 a2 a4 x11_1 x12_1 x13_1 x14_2)) else (none)) else (none)) = some r := by first | (rw [hji15] at H; exact H) | (simp only [hji15] at H ⊢; exact H)
                    have hji15w : (IntKind.i64.wrap ((wrap64 (x14_2 * a2)) + x13_1)) = ji15 := (i64_w _).trans hji15
                    by_cases c16 : 0 ≤ (ji15)
                    · rw [if_pos c16] at H
                      have c16b0 : decide (0 ≤ (ji15)) = true := decide_eq_true c16
                      clear c16
                      by_cases c17 : (ji15) < (x11_1.length : Int)
                      · rw [if_pos c17] at H
                        have c17b0 : decide ((ji15) < (x11_1.length : Int)) = true := decide_eq_true c17
                        clear c17
                        by_cases c18 : (rd x11_1 (ji15)) = 0
                        · rw [if_pos c18] at H
                          have c18b0 : ((rd x11_1 (ji15)) == 0) = true := beq_iff_eq.mpr c18
                          have c18b1 : ((rd x11_1 (ji15)) != 0) = false := bne_eq_false_iff_eq.mpr c18
                          clear c18
                          have H' := Aside0.mk H
                          clear H
                          obtain ⟨Ao19, co19, eo19⟩ := Kd.R_slice HO_11.out
                          subst eo19
                          have p250 : 0 ≤ ((ji15) : Int) := of_decide_eq_true sqA
                          have q250 : (ji15) < (x11_1.length : Int) := of_decide_eq_true sqA
                          obtain ⟨ad250, e250, hx250_0⟩ := Kd.at_int (Kd.R_reads' HO_11.out).2.2 (ji15) p250 q250
                          cases e250
                          replace p250 := eq_true p250
                          replace q250 := eq_true q250
                          go_wp2
                          go_roundg k2
                          case measure => have := HK1.out; have := HK2.out; omega
                          case rel => exact ⟨(wrap64 (x14_2 + 1)), (sqD), H', ⟨by have := HK1.out; have := HK2.out; omega⟩, ⟨sqR HO_11.out⟩, ⟨sqB⟩⟩
                        · rw [if_neg c18] at H
                          have c18b0 : ((rd x11_1 (ji15)) == 0) = false := beq_eq_false_iff_ne.mpr c18
                          have c18b1 : ((rd x11_1 (ji15)) != 0) = true := bne_iff_ne.mpr c18
                          have H' := Aside0.mk H
                          clear H
                          obtain ⟨Ao20, co20, eo20⟩ := Kd.R_slice HO_11.out
                          subst eo20
                          have p250 : 0 ≤ ((ji15) : Int) := of_decide_eq_true sqA
                          have q250 : (ji15) < (x11_1.length : Int) := of_decide_eq_true sqA
                          obtain ⟨ad250, e250, hx250_0⟩ := Kd.at_int (Kd.R_reads' HO_11.out).2.2 (ji15) p250 q250
                          cases e250
                          replace p250 := eq_true p250
                          replace q250 := eq_true q250
                          go_wp2
                          go_meet
                          case rel => exact ⟨_, (x14_2), (sqD), H', ⟨by have := HK1.out; have := HK2.out; first | omega | exact Nat.le_refl _⟩, ⟨sqR HO_11.out⟩, ⟨sqB⟩⟩
                      · rw [if_neg c17] at H
                        exact absurd H (by simp)
                    · rw [if_neg c16] at H
                      exact absurd H (by simp)
                  · rw [if_neg c14] at H
                    have c14b0 : decide (x14_2 < a1) = false := decide_eq_false c14
                    clear c14
                    (first | rw [c14b0] | (simp only [i64_w, i32_w]; rw [c14b0]) | skip)
                    have H' := Aside0.mk H
                    clear H
                    go_wp2
                    go_meet
                    case rel => exact ⟨_, (x14_2), (sqD), H', ⟨by have := HK1.out; have := HK2.out; first | omega | exact Nat.le_refl _⟩, ⟨sqR HO_11.out⟩, ⟨sqB⟩⟩
            case rest =>
              clear HC13
              try clear c1
              try clear p2
              try clear q2
              try clear hx2
              try clear c3
              try clear c5
              try clear c6
              try clear p6
              try clear c7
              try clear c10
              try clear c10b0
              try clear c12
              try clear c14
              try clear c14b0
              try clear c16
              try clear c16b0
              try clear c17
              try clear c17b0
              try clear c18
              try clear c18b0
              try clear c18b1
              try clear hx250_0
              try clear p2
              try clear p250
              try clear p6
              try clear q250
              obtain ⟨kq, x14_12, rfl, HA, HJ12, HO_11, HB⟩ := hcut
              cases kq with
              | zero => exact absurd HA.out (by simp [spec_l4Rank.j2])
              | succ kj12 =>
                have H := HA.out
                clear HA
                simp only [spec_l4Rank.j2] at H
                by_cases c21 : x14_12 ≥ a1
                · rw [if_pos c21] at H
                  have c21b0 : decide (a1 ≤ x14_12) = true := decide_eq_true c21
                  clear c21
                  have H' := Aside0.mk H
                  clear H
                  go_wp2
                  go_roundg kj12
                  case measure => have := HK1.out; have := HJ12.out; omega
                  case rel => exact ⟨(x11_1), (x12_1), (wrap64 (x13_1 + 1)), (sqD), (sqD), H', ⟨by have := HK1.out; have := HJ12.out; omega⟩, ⟨sqR HO_11.out⟩, ⟨sqB⟩⟩
                · rw [if_neg c21] at H
                  have c21b0 : decide (a1 ≤ x14_12) = false := decide_eq_false c21
                  clear c21
                  have H' := Aside0.mk H
                  clear H
                  go_wp2
                  go_loopg [15] kj12 (fun kq v15 w' => ∃ (x11_3 : List Int) (x15_3 : Int), v15 = .int .i64 x15_3 ∧ Aside0 (spec_l4Rank.l2 kq a0 a1 a2 a4 x11_3 x12_1 x13_1 x14_12 x15_3 = some r) ∧ Aside0 (kq ≤ kj12) ∧ Aside0 (Kd.R (Kd.int .i64) 3 w' w.heap.size (fun _ => True) v247 x11_3) ∧ Aside0 (Below w.heap.size w w'))
                  case atStart => exact ⟨(x11_1), (0), (sqD), H', ⟨Nat.le_refl _⟩, ⟨sqR HO_11.out⟩, ⟨sqB⟩⟩
                  case round =>
                    clear H'
                    try clear c1
                    try clear c2
                    try clear p2
                    try clear q2
                    try clear hx2
                    try clear c3
                    try clear c5
                    try clear c6
                    try clear p6
                    try clear c7
                    try clear c10
                    try clear c10b0
                    try clear c12
                    try clear c14
                    try clear c14b0
                    try clear c16
                    try clear c16b0
                    try clear c17
                    try clear c17b0
                    try clear c18
                    try clear c18b0
                    try clear c18b1
                    try clear c21
                    try clear c21b0
                    try clear hx250_0
                    try clear p2
                    try clear p250
                    try clear p6
                    try clear q2
                    try clear q250
                    obtain ⟨x11_3, x15_3, rfl, HA, HK3, HO_11, HB⟩ := hrel
                    cases gk with
                    | zero => exact absurd HA.out (by simp [spec_l4Rank.l2])
                    | succ k3 =>
                      have H := HA.out
                      clear HA
                      simp only [spec_l4Rank.l2] at H
                      by_cases c22 : x15_3 < a2
                      · rw [if_pos c22] at H
                        have c22b0 : decide (x15_3 < a2) = true := decide_eq_true c22
                        clear c22
                        obtain ⟨ji23, hji23⟩ : ∃ j_ : Int, (wrap64 ((wrap64 (x14_12 * a2)) + x15_3)) = j_ := ⟨_, rfl⟩
                        replace H : (if 0 ≤ (ji23) then (if (ji23) < (x11_3.length : Int) then (if 0 ≤ (wrap64 ((wrap64 (x12_1 * a2)) + x15_3)) then (if (wrap64 ((wrap64 (x12_1 * a2)) + x15_3)) < (x11_3.length : Int) then (spec_l4Rank.l2 k3 a0 a1 a2 a4 ((x11_3.set ((ji23) : Int).toNat (rd x11_3 (wrap64 ((wrap64 (x12_1 * a2)) + x15_3)))).set ((wrap64 ((wrap64 (x12_1 * a2)) + x15_3)) : Int).toNat (rd x11_3 (ji23))) x12_1 x13_1 x14_12 (wrap64 (x15_3 + 1))) else (none)) else (none)) else (none)) else (none)) = some r := by first | (rw [hji23] at H; exact H) | (simp only [hji23] at H ⊢; exact H)
                        have hji23w : (IntKind.i64.wrap ((wrap64 (x14_12 * a2)) + x15_3)) = ji23 := (i64_w _).trans hji23
                        by_cases c24 : 0 ≤ (ji23)
                        · rw [if_pos c24] at H
                          have c24b0 : decide (0 ≤ (ji23)) = true := decide_eq_true c24
                          clear c24
                          by_cases c25 : (ji23) < (x11_3.length : Int)
                          · rw [if_pos c25] at H
                            have c25b0 : decide ((ji23) < (x11_3.length : Int)) = true := decide_eq_true c25
                            clear c25
                            obtain ⟨ji26, hji26⟩ : ∃ j_ : Int, (wrap64 ((wrap64 (x12_1 * a2)) + x15_3)) = j_ := ⟨_, rfl⟩
                            replace H : (if 0 ≤ (ji26) then (if (ji26) < (x11_3.length : Int) then (spec_l4Rank.l2 k3 a0 a1 a2 a4 ((x11_3.set ((ji23) : Int).toNat (rd x11_3 (ji26))).set ((ji26) : Int).toNat (rd x11_3 (ji23))) x12_1 x13_1 x14_12 (wrap64 (x15_3 + 1))) else (none)) else (none)) = some r := by first | (rw [hji26] at H; exact H) | (simp only [hji26] at H ⊢; exact H)
                            have hji26w : (IntKind.i64.wrap ((wrap64 (x12_1 * a2)) + x15_3)) = ji26 := (i64_w _).trans hji26
                            by_cases c27 : 0 ≤ (ji26)
                            · rw [if_pos c27] at H
                              have c27b0 : decide (0 ≤ (ji26)) = true := decide_eq_true c27
                              clear c27
                              by_cases c28 : (ji26) < (x11_3.length : Int)
                              · rw [if_pos c28] at H
                                have c28b0 : decide ((ji26) < (x11_3.length : Int)) = true := decide_eq_true c28
                                clear c28
                                obtain ⟨y253, hy253⟩ : ∃ y_ : List Int, y_ = (x11_3.set ((ji23) : Int).toNat (rd x11_3 (ji26))) := ⟨_, rfl⟩
                                replace H : (spec_l4Rank.l2 k3 a0 a1 a2 a4 (y253.set ((ji26) : Int).toNat (rd x11_3 (ji23))) x12_1 x13_1 x14_12 (wrap64 (x15_3 + 1))) = some r := by first | (rw [hy253]; with_reducible exact H) | (have H2_ := (Option.bind_some _ _).symm.trans H; rw [hy253]; with_reducible exact H2_) | (have H2_ := (Option.bind_some _ _).symm.trans H; with_reducible exact H2_) | with_reducible exact H | (rw [hy253]; exact H) | exact H
                                have Ny253 := Aside0.mk hy253
                                clear hy253
                                obtain ⟨y254, hy254⟩ : ∃ y_ : List Int, y_ = (y253.set ((ji26) : Int).toNat (rd x11_3 (ji23))) := ⟨_, rfl⟩
                                replace H : (spec_l4Rank.l2 k3 a0 a1 a2 a4 y254 x12_1 x13_1 x14_12 (wrap64 (x15_3 + 1))) = some r := by first | (rw [hy254]; with_reducible exact H) | (have H2_ := (Option.bind_some _ _).symm.trans H; rw [hy254]; with_reducible exact H2_) | (have H2_ := (Option.bind_some _ _).symm.trans H; with_reducible exact H2_) | with_reducible exact H | (rw [hy254]; exact H) | exact H
                                have Ny254 := Aside0.mk hy254
                                clear hy254
                                have H' := Aside0.mk H
                                clear H
                                obtain ⟨Ao31, co31, eo31⟩ := Kd.R_slice HO_11.out
                                subst eo31
                                have p251 : 0 ≤ ((ji23) : Int) := of_decide_eq_true sqA
                                have q251 : (ji23) < (x11_3.length : Int) := of_decide_eq_true sqA
                                obtain ⟨ad251, e251, hx251_0⟩ := Kd.at_int (Kd.R_reads' HO_11.out).2.2 (ji23) p251 q251
                                cases e251
                                replace p251 := eq_true p251
                                replace q251 := eq_true q251
                                have p252 : 0 ≤ ((ji26) : Int) := of_decide_eq_true sqA
                                have q252 : (ji26) < (x11_3.length : Int) := of_decide_eq_true sqA
                                obtain ⟨ad252, e252, hx252_0⟩ := Kd.at_int (Kd.R_reads' HO_11.out).2.2 (ji26) p252 q252
                                obtain rfl : ad251 = ad252 := (by injection e252)
                                replace p252 := eq_true p252
                                replace q252 := eq_true q252
                                have p29 : 0 ≤ ((ji23) : Int) := of_decide_eq_true sqA
                                have q29 : ((ji23) : Int) < ((x11_3.length : Int) : Int) := of_decide_eq_true sqA
                                obtain ⟨go29, co29, eo29, gb29, gl29, cl29, HG29⟩ := Kd.R_form HO_11.out (by omega)
                                (first | cases eo29 | (injection eo29 with ea_ en_ ec_; (first | subst ea_ | (injection ea_ with ea_; subst ea_)); subst ec_; clear en_))
                                (try simp only [add_plain] at *)
                                have GB29 := Aside0.mk gb29
                                have GG29 := Aside0.mk HG29
                                clear gb29 gl29 HG29
                                (first | simp only [add_plain] at hx251_0 | skip)
                                (first | simp only [add_plain] at hx252_0 | skip)
                                obtain ⟨hx29_0, hf29_0⟩ := Kd.R_celln 0 HO_11.out ((ji23) : Int) p29 q29
                                replace p29 := eq_true p29
                                replace q29 := eq_true q29
                                have HP32 := Kd.R_putg HO_11.out ((ji23) : Int) (rd x11_3 (ji26))
                                go_wp2_with (first | ((with_reducible refine gate_store (t := 3) (p := 80) rfl ?_); refine store_event (t := 3) (p := 80) (v := ?vo_w33) (w1 := (wr.setCell ⟨go29, ((ji23) : Int).toNat, none⟩ (.int .i64 (rd x11_3 (ji26))))) ?hg ?ho ?hn ?hr ?_; (case ho => rfl); (case hg => rfl); (case hn => rfl); (case hr => exact sqG); intro w33 hw; have hg : wr.grownBy w33 (some go29) := (by rw [hw]; exact HP32.2); have hp_ : Kd.R (Kd.int .i64) 3 w33 w.heap.size (fun _ => True) (.slice (some ⟨go29, 0, none⟩) x11_3.length co31) y253 := (by rw [hw, Ny253.out]; exact HP32.1); clear HP32; have n0_ := Aside0.mk (hp_); have n1_ := Aside0.mk ((by rw [hw]; exact below_set (HB.out) GB29.out : Below w.heap.size w w33)); clear HO_11; clear HB; have HO_11 := n0_; have HB := n1_; clear n0_ n1_; clear hg hw hp_; have p30 : 0 ≤ ((ji26) : Int) := of_decide_eq_true sqA; have q30 : ((ji26) : Int) < ((x11_3.length : Int) : Int) := of_decide_eq_true sqA; obtain ⟨hx30_0, hf30_0⟩ := Kd.R_celln 0 HO_11.out ((ji26) : Int) p30 q30; replace p30 := eq_true p30; replace q30 := eq_true q30; obtain ⟨hy34_, hz34_⟩ := Kd.R_celln 0 HO_11.out ((ji26) : Int) (of_decide_eq_true sqA) (of_decide_eq_true sqA); have HP34 := Kd.R_putg HO_11.out ((ji26) : Int) (rd x11_3 (ji23))) | ((with_reducible refine gate_store (t := 3) (p := 88) rfl ?_); refine store_event (t := 3) (p := 88) (v := ?vo_w35) (w1 := (w33.setCell ⟨go29, ((ji26) : Int).toNat, none⟩ (.int .i64 (rd x11_3 (ji23))))) ?hg ?ho ?hn ?hr ?_; (case ho => rfl); (case hg => rfl); (case hn => rfl); (case hr => exact sqG); intro w35 hw; have hg : w33.grownBy w35 (some go29) := (by rw [hw]; exact HP34.2); have hp_ : Kd.R (Kd.int .i64) 3 w35 w.heap.size (fun _ => True) (.slice (some ⟨go29, 0, none⟩) x11_3.length co31) y254 := (by rw [hw, Ny254.out]; exact HP34.1); clear HP34; have n0_ := Aside0.mk (hp_); have n1_ := Aside0.mk ((by rw [hw]; exact below_set (HB.out) GB29.out : Below w.heap.size w w35)); clear HO_11; clear HB; have HO_11 := n0_; have HB := n1_; clear n0_ n1_; clear hg hw hp_))
                                go_roundg k3
                                case measure => have := HK1.out; have := HJ12.out; have := HK3.out; omega
                                case rel => exact ⟨(y254), (wrap64 (x15_3 + 1)), (sqD), H', ⟨by have := HK1.out; have := HJ12.out; have := HK3.out; omega⟩, ⟨sqR HO_11.out⟩, ⟨sqB⟩⟩
                              · rw [if_neg c28] at H
                                exact absurd H (by simp)
                            · rw [if_neg c27] at H
                              exact absurd H (by simp)
                          · rw [if_neg c25] at H
                            exact absurd H (by simp)
                        · rw [if_neg c24] at H
                          exact absurd H (by simp)
                      · rw [if_neg c22] at H
                        have c22b0 : decide (x15_3 < a2) = false := decide_eq_false c22
                        clear c22
                        have H' := Aside0.mk H
                        clear H
                        go_wp2
                        go_loopg [17] k3 (fun kq v17 w' => ∃ (x11_4 : List Int) (x17_4 : Int), v17 = .int .i64 x17_4 ∧ Aside0 (spec_l4Rank.l3 kq a0 a1 a2 a4 x11_4 x12_1 x13_1 x17_4 = some r) ∧ Aside0 (kq ≤ k3) ∧ Aside0 (Kd.R (Kd.int .i64) 3 w' w.heap.size (fun _ => True) v247 x11_4) ∧ Aside0 (Below w.heap.size w w'))
                        case atStart => exact ⟨(x11_3), (wrap64 (x12_1 + 1)), (sqD), H', ⟨Nat.le_refl _⟩, ⟨sqR HO_11.out⟩, ⟨sqB⟩⟩
                        case round =>
                          clear H'
                          try clear c1
                          try clear c2
                          try clear p2
                          try clear q2
                          try clear hx2
                          try clear c3
                          try clear p3
                          try clear q3
                          try clear hx3
                          try clear c5
                          try clear c6
                          try clear p6
                          try clear c7
                          try clear c10
                          try clear c10b0
                          try clear c12
                          try clear c14
                          try clear c14b0
                          try clear c16
                          try clear c16b0
                          try clear c17
                          try clear c17b0
                          try clear c18
                          try clear c18b0
                          try clear c18b1
                          try clear c21
                          try clear c21b0
                          try clear c22
                          try clear c22b0
                          try clear c24
                          try clear c24b0
                          try clear c25
                          try clear c25b0
                          try clear p25
                          try clear q25
                          try clear hx25
                          try clear c27
                          try clear c27b0
                          try clear c28
                          try clear c28b0
                          try clear p29
                          try clear q29
                          try clear hx29
                          try clear hf29
                          try clear p30
                          try clear q30
                          try clear hx30
                          try clear hf30
                          try clear hx250_0
                          try clear hx251_0
                          try clear hx252_0
                          try clear hx29_0
                          try clear hx30_0
                          try clear p2
                          try clear p250
                          try clear p251
                          try clear p252
                          try clear p29
                          try clear p30
                          try clear p6
                          try clear q2
                          try clear q250
                          try clear q251
                          try clear q252
                          try clear q29
                          try clear q30
                          obtain ⟨x11_4, x17_4, rfl, HA, HK4, HO_11, HB⟩ := hrel
                          cases gk with
                          | zero => exact absurd HA.out (by simp [spec_l4Rank.l3])
                          | succ k4 =>
                            have H := HA.out
                            clear HA
                            simp only [spec_l4Rank.l3] at H
                            by_cases c36 : x17_4 < a1
                            · rw [if_pos c36] at H
                              have c36b0 : decide (x17_4 < a1) = true := decide_eq_true c36
                              clear c36
                              obtain ⟨ji37, hji37⟩ : ∃ j_ : Int, (wrap64 ((wrap64 (x17_4 * a2)) + x13_1)) = j_ := ⟨_, rfl⟩
                              replace H : (if 0 ≤ (ji37) then (if (ji37) < (x11_4.length : Int) then (if 0 ≤ (wrap64 ((wrap64 (x12_1 * a2)) + x13_1)) then (if (wrap64 ((wrap64 (x12_1 * a2)) + x13_1)) < (x11_4.length : Int) then (spec_l4Rank.l4 k4 a0 a1 a2 a4 x11_4 x12_1 x13_1 x17_4 (rd x11_4 (ji37)) (rd x11_4 (wrap64 ((wrap64 (x12_1 * a2)) + x13_1))) 0) else (none)) else (none)) else (none)) else (none)) = some r := by first | (rw [hji37] at H; exact H) | (simp only [hji37] at H ⊢; exact H)
                              have hji37w : (IntKind.i64.wrap ((wrap64 (x17_4 * a2)) + x13_1)) = ji37 := (i64_w _).trans hji37
                              by_cases c38 : 0 ≤ (ji37)
                              · rw [if_pos c38] at H
                                have c38b0 : decide (0 ≤ (ji37)) = true := decide_eq_true c38
                                clear c38
                                by_cases c39 : (ji37) < (x11_4.length : Int)
                                · rw [if_pos c39] at H
                                  have c39b0 : decide ((ji37) < (x11_4.length : Int)) = true := decide_eq_true c39
                                  clear c39
                                  obtain ⟨ji40, hji40⟩ : ∃ j_ : Int, (wrap64 ((wrap64 (x12_1 * a2)) + x13_1)) = j_ := ⟨_, rfl⟩
                                  replace H : (if 0 ≤ (ji40) then (if (ji40) < (x11_4.length : Int) then (spec_l4Rank.l4 k4 a0 a1 a2 a4 x11_4 x12_1 x13_1 x17_4 (rd x11_4 (ji37)) (rd x11_4 (ji40)) 0) else (none)) else (none)) = some r := by first | (rw [hji40] at H; exact H) | (simp only [hji40] at H ⊢; exact H)
                                  have hji40w : (IntKind.i64.wrap ((wrap64 (x12_1 * a2)) + x13_1)) = ji40 := (i64_w _).trans hji40
                                  by_cases c41 : 0 ≤ (ji40)
                                  · rw [if_pos c41] at H
                                    have c41b0 : decide (0 ≤ (ji40)) = true := decide_eq_true c41
                                    clear c41
                                    by_cases c42 : (ji40) < (x11_4.length : Int)
                                    · rw [if_pos c42] at H
                                      have c42b0 : decide ((ji40) < (x11_4.length : Int)) = true := decide_eq_true c42
                                      clear c42
                                      have H' := Aside0.mk H
                                      clear H
                                      obtain ⟨Ao43, co43, eo43⟩ := Kd.R_slice HO_11.out
                                      subst eo43
                                      have p255 : 0 ≤ ((ji37) : Int) := of_decide_eq_true sqA
                                      have q255 : (ji37) < (x11_4.length : Int) := of_decide_eq_true sqA
                                      obtain ⟨ad255, e255, hx255_0⟩ := Kd.at_int (Kd.R_reads' HO_11.out).2.2 (ji37) p255 q255
                                      cases e255
                                      replace p255 := eq_true p255
                                      replace q255 := eq_true q255
                                      have p256 : 0 ≤ ((ji40) : Int) := of_decide_eq_true sqA
                                      have q256 : (ji40) < (x11_4.length : Int) := of_decide_eq_true sqA
                                      obtain ⟨ad256, e256, hx256_0⟩ := Kd.at_int (Kd.R_reads' HO_11.out).2.2 (ji40) p256 q256
                                      obtain rfl : ad255 = ad256 := (by injection e256)
                                      replace p256 := eq_true p256
                                      replace q256 := eq_true q256
                                      go_wp2
                                      go_loopg [20] k4 (fun kq v20 w' => ∃ (x11_5 : List Int) (x20_5 : Int), v20 = .int .i64 x20_5 ∧ Aside0 (spec_l4Rank.l4 kq a0 a1 a2 a4 x11_5 x12_1 x13_1 x17_4 (rd x11_4 (ji37)) (rd x11_4 (ji40)) x20_5 = some r) ∧ Aside0 (kq ≤ k4) ∧ Aside0 (Kd.R (Kd.int .i64) 3 w' w.heap.size (fun _ => True) (.slice (some ad255) x11_4.length co43) x11_5) ∧ Aside0 (Below w.heap.size w w'))
                                      case atStart => exact ⟨(x11_4), (0), (sqD), H', ⟨Nat.le_refl _⟩, ⟨sqR HO_11.out⟩, ⟨sqB⟩⟩
                                      case round =>
                                        clear H'
                                        try clear c1
                                        try clear c2
                                        try clear p2
                                        try clear q2
                                        try clear hx2
                                        try clear c3
                                        try clear p3
                                        try clear q3
                                        try clear hx3
                                        try clear c4
                                        try clear c5
                                        try clear c6
                                        try clear p6
                                        try clear c7
                                        try clear c10
                                        try clear c10b0
                                        try clear c12
                                        try clear c14
                                        try clear c14b0
                                        try clear c16
                                        try clear c16b0
                                        try clear c17
                                        try clear c17b0
                                        try clear c18
                                        try clear c18b0
                                        try clear c18b1
                                        try clear c21
                                        try clear c21b0
                                        try clear c22
                                        try clear c22b0
                                        try clear c24
                                        try clear c24b0
                                        try clear c25
                                        try clear c25b0
                                        try clear p25
                                        try clear q25
                                        try clear hx25
                                        try clear c27
                                        try clear c27b0
                                        try clear c28
                                        try clear c28b0
                                        try clear p29
                                        try clear q29
                                        try clear hx29
                                        try clear hf29
                                        try clear p30
                                        try clear q30
                                        try clear hx30
                                        try clear hf30
                                        try clear c36
                                        try clear c36b0
                                        try clear c38
                                        try clear c38b0
                                        try clear c39
                                        try clear c39b0
                                        try clear c41
                                        try clear c41b0
                                        try clear c42
                                        try clear c42b0
                                        try clear hx250_0
                                        try clear hx251_0
                                        try clear hx252_0
                                        try clear hx255_0
                                        try clear hx256_0
                                        try clear hx29_0
                                        try clear hx30_0
                                        try clear p2
                                        try clear p25
                                        try clear p250
                                        try clear p251
                                        try clear p252
                                        try clear p255
                                        try clear p256
                                        try clear p29
                                        try clear p3
                                        try clear p30
                                        try clear p6
                                        try clear q2
                                        try clear q25
                                        try clear q250
                                        try clear q251
                                        try clear q252
                                        try clear q255
                                        try clear q256
                                        try clear q29
                                        try clear q3
                                        try clear q30
                                        obtain ⟨x11_5, x20_5, rfl, HA, HK5, HO_11, HB⟩ := hrel
                                        have hl11_5 := (Kd.R_reads' HO_11.out).1
                                        rw [hl11_5] at HO_11
                                        (try simp only [hl11_5])
                                        cases gk with
                                        | zero => exact absurd HA.out (by simp [spec_l4Rank.l4])
                                        | succ k5 =>
                                          have H := HA.out
                                          clear HA
                                          simp only [spec_l4Rank.l4] at H
                                          by_cases c44 : x20_5 < a2
                                          · rw [if_pos c44] at H
                                            have c44b0 : decide (x20_5 < a2) = true := decide_eq_true c44
                                            clear c44
                                            obtain ⟨ji45, hji45⟩ : ∃ j_ : Int, (wrap64 ((wrap64 (x17_4 * a2)) + x20_5)) = j_ := ⟨_, rfl⟩
                                            replace H : (if 0 ≤ (ji45) then (if (ji45) < (x11_5.length : Int) then (if 0 ≤ (wrap64 ((wrap64 (x12_1 * a2)) + x20_5)) then (if (wrap64 ((wrap64 (x12_1 * a2)) + x20_5)) < (x11_5.length : Int) then (if a0 = 0 then (none) else (spec_l4Rank.l4 k5 a0 a1 a2 a4 (x11_5.set ((ji45) : Int).toNat (Int.tmod (wrap64 ((Int.tmod (wrap64 ((wrap64 ((rd x11_5 (ji45)) * (rd x11_4 (ji40)))) - (wrap64 ((rd x11_5 (wrap64 ((wrap64 (x12_1 * a2)) + x20_5))) * (rd x11_4 (ji37)))))) a0) + a0)) a0)) x12_1 x13_1 x17_4 (rd x11_4 (ji37)) (rd x11_4 (ji40)) (wrap64 (x20_5 + 1)))) else (none)) else (none)) else (none)) else (none)) = some r := by first | (rw [hji45] at H; exact H) | (simp only [hji45] at H ⊢; exact H)
                                            have hji45w : (IntKind.i64.wrap ((wrap64 (x17_4 * a2)) + x20_5)) = ji45 := (i64_w _).trans hji45
                                            by_cases c46 : 0 ≤ (ji45)
                                            · rw [if_pos c46] at H
                                              have c46b0 : decide (0 ≤ (ji45)) = true := decide_eq_true c46
                                              clear c46
                                              by_cases c47 : (ji45) < (x11_5.length : Int)
                                              · rw [if_pos c47] at H
                                                have c47b0 : decide ((ji45) < (x11_5.length : Int)) = true := decide_eq_true c47
                                                (try simp only [hl11_5] at c47b0)
                                                clear c47
                                                obtain ⟨ji48, hji48⟩ : ∃ j_ : Int, (wrap64 ((wrap64 (x12_1 * a2)) + x20_5)) = j_ := ⟨_, rfl⟩
                                                replace H : (if 0 ≤ (ji48) then (if (ji48) < (x11_5.length : Int) then (if a0 = 0 then (none) else (spec_l4Rank.l4 k5 a0 a1 a2 a4 (x11_5.set ((ji45) : Int).toNat (Int.tmod (wrap64 ((Int.tmod (wrap64 ((wrap64 ((rd x11_5 (ji45)) * (rd x11_4 (ji40)))) - (wrap64 ((rd x11_5 (ji48)) * (rd x11_4 (ji37)))))) a0) + a0)) a0)) x12_1 x13_1 x17_4 (rd x11_4 (ji37)) (rd x11_4 (ji40)) (wrap64 (x20_5 + 1)))) else (none)) else (none)) = some r := by first | (rw [hji48] at H; exact H) | (simp only [hji48] at H ⊢; exact H)
                                                have hji48w : (IntKind.i64.wrap ((wrap64 (x12_1 * a2)) + x20_5)) = ji48 := (i64_w _).trans hji48
                                                by_cases c49 : 0 ≤ (ji48)
                                                · rw [if_pos c49] at H
                                                  have c49b0 : decide (0 ≤ (ji48)) = true := decide_eq_true c49
                                                  clear c49
                                                  by_cases c50 : (ji48) < (x11_5.length : Int)
                                                  · rw [if_pos c50] at H
                                                    have c50b0 : decide ((ji48) < (x11_5.length : Int)) = true := decide_eq_true c50
                                                    (try simp only [hl11_5] at c50b0)
                                                    clear c50
                                                    by_cases c51 : a0 = 0
                                                    · rw [if_pos c51] at H
                                                      exact absurd H (by simp)
                                                    · rw [if_neg c51] at H
                                                      have c51b0 : (a0 == 0) = false := beq_eq_false_iff_ne.mpr c51
                                                      have c51b1 : (a0 != 0) = true := bne_iff_ne.mpr c51
                                                      obtain ⟨y259, hy259⟩ : ∃ y_ : List Int, y_ = (x11_5.set ((ji45) : Int).toNat (Int.tmod (wrap64 ((Int.tmod (wrap64 ((wrap64 ((rd x11_5 (ji45)) * (rd x11_4 (ji40)))) - (wrap64 ((rd x11_5 (ji48)) * (rd x11_4 (ji37)))))) a0) + a0)) a0)) := ⟨_, rfl⟩
                                                      replace H : (spec_l4Rank.l4 k5 a0 a1 a2 a4 y259 x12_1 x13_1 x17_4 (rd x11_4 (ji37)) (rd x11_4 (ji40)) (wrap64 (x20_5 + 1))) = some r := by first | (rw [hy259]; with_reducible exact H) | (have H2_ := (Option.bind_some _ _).symm.trans H; rw [hy259]; with_reducible exact H2_) | (have H2_ := (Option.bind_some _ _).symm.trans H; with_reducible exact H2_) | with_reducible exact H | (rw [hy259]; exact H) | exact H
                                                      have Ny259 := Aside0.mk hy259
                                                      clear hy259
                                                      have H' := Aside0.mk H
                                                      clear H
                                                      try go_wp2
                                                      have n0_ := Aside0.mk (Kd.R_drew HO_11.out)
                                                      have n1_ := Aside0.mk (below_drew1 HB.out)
                                                      clear HO_11 HB; have HO_11 := n0_; have HB := n1_; clear n0_ n1_
                                                      have p257 : 0 ≤ ((ji45) : Int) := of_decide_eq_true sqA
                                                      have q257 : (ji45) < (x11_5.length : Int) := of_decide_eq_true sqA
                                                      obtain ⟨ad257, e257, hx257_0⟩ := Kd.at_int (Kd.R_reads' HO_11.out).2.2 (ji45) p257 q257
                                                      obtain rfl : ad255 = ad257 := (by injection e257)
                                                      replace p257 := eq_true p257
                                                      replace q257 := eq_true q257
                                                      have p258 : 0 ≤ ((ji48) : Int) := of_decide_eq_true sqA
                                                      have q258 : (ji48) < (x11_5.length : Int) := of_decide_eq_true sqA
                                                      obtain ⟨ad258, e258, hx258_0⟩ := Kd.at_int (Kd.R_reads' HO_11.out).2.2 (ji48) p258 q258
                                                      obtain rfl : ad255 = ad258 := (by injection e258)
                                                      replace p258 := eq_true p258
                                                      replace q258 := eq_true q258
                                                      have p52 : 0 ≤ ((ji45) : Int) := of_decide_eq_true sqA
                                                      have q52 : ((ji45) : Int) < ((x11_5.length : Int) : Int) := of_decide_eq_true sqA
                                                      obtain ⟨go52, co52, eo52, gb52, gl52, cl52, HG52⟩ := Kd.R_form HO_11.out (by omega)
                                                      (first | cases eo52 | (injection eo52 with ea_ en_ ec_; (first | subst ea_ | (injection ea_ with ea_; subst ea_)); subst ec_; clear en_))
                                                      (try simp only [add_plain] at *)
                                                      have GB52 := Aside0.mk gb52
                                                      have GG52 := Aside0.mk HG52
                                                      clear gb52 gl52 HG52
                                                      (first | simp only [add_plain] at hx255_0 | skip)
                                                      (first | simp only [add_plain] at hx256_0 | skip)
                                                      (first | simp only [add_plain] at hx257_0 | skip)
                                                      (first | simp only [add_plain] at hx258_0 | skip)
                                                      obtain ⟨hx52_0, hf52_0⟩ := Kd.R_celln 0 HO_11.out ((ji45) : Int) p52 q52
                                                      replace p52 := eq_true p52
                                                      replace q52 := eq_true q52
                                                      have HP54 := Kd.R_putn HO_11.out ((ji45) : Int) (Int.tmod (wrap64 ((Int.tmod (wrap64 ((wrap64 ((rd x11_5 (ji45)) * (rd x11_4 (ji40)))) - (wrap64 ((rd x11_5 (ji48)) * (rd x11_4 (ji37)))))) a0) + a0)) a0)
                                                      rw [← Ny259.out] at HP54
                                                      have HQ54 := Aside0.mk HP54
                                                      clear HP54
                                                      refine start_ (n := 35) (S := fun w' => w'.cell? ⟨go52, ((ji45)).toNat, none⟩ = some (.int .i64 (rd x11_5 (ji45))) ∧ w'.cell? ⟨go52, ((ji48)).toNat, none⟩ = some (.int .i64 (rd x11_5 (ji48)))) (ds := [34]) #[false, false, false, false, false, false, false, false, false, false, false, false, false, false, false, false, false, false, false, false, false, false, false, false, false, false, false, false, false, false, false, false, false, false, false] (by kernel_rfl) rfl rfl ⟨hx257_0, hx258_0⟩ (fun hHeld => ?_); refine with_tabW spec_l4Rank.tab25 spec_l4Rank.bits25 (fun HT_ HW_ => ?_)
                                                      generalize wr.drew = w53 at HO_11 HB GG52 HQ54 hf52_0 hx257_0 hx258_0 hx52_0 hHeld ⊢
                                                      refine pure_ (i := 0) (N := some 117) (v := ?_) (a' := ?_) #[true, false, false, false, false, false, false, false, false, false, false, false, false, false, false, false, false, false, false, false, false, false, false, false, false, false, false, false, false, false, false, false, false, false, false] rfl rfl (any_of HT_.out (by kernel_rfl)) (fun _ _ _ h => h) (Or.inl ⟨by rfl, ?_⟩) ?_ ?_
                                                      rotate_left
                                                      · intro w'; go_simp; with_reducible rfl
                                                      rotate_left
                                                      · simp only [Act.put, List.setIfInBounds_toArray, List.set_cons_zero, List.set_cons_succ, i64_w, i32_w]; rfl
                                                      refine pure_ (i := 1) (N := some 118) (v := ?_) (a' := ?_) #[true, true, false, false, false, false, false, false, false, false, false, false, false, false, false, false, false, false, false, false, false, false, false, false, false, false, false, false, false, false, false, false, false, false, false] rfl rfl (any_of HT_.out (by kernel_rfl)) (fun _ _ _ h => h) (Or.inl ⟨by rfl, ?_⟩) ?_ ?_
                                                      rotate_left
                                                      · intro w'; go_simp; with_reducible rfl
                                                      rotate_left
                                                      · simp only [Act.put, List.setIfInBounds_toArray, List.set_cons_zero, List.set_cons_succ, i64_w, i32_w]; rfl
                                                      refine pure_ (i := 2) (N := some 119) (v := ?_) (a' := ?_) #[true, true, true, false, false, false, false, false, false, false, false, false, false, false, false, false, false, false, false, false, false, false, false, false, false, false, false, false, false, false, false, false, false, false, false] rfl rfl (any_of HT_.out (by kernel_rfl)) (fun _ _ _ h => h) (Or.inl ⟨by rfl, ?_⟩) ?_ ?_
                                                      rotate_left
                                                      · intro w'; go_simp; with_reducible rfl
                                                      rotate_left
                                                      · simp only [Act.put, List.setIfInBounds_toArray, List.set_cons_zero, List.set_cons_succ, i64_w, i32_w]; rfl
                                                      refine pure_ (i := 3) (N := some 120) (v := ?_) (a' := ?_) #[true, true, true, true, false, false, false, false, false, false, false, false, false, false, false, false, false, false, false, false, false, false, false, false, false, false, false, false, false, false, false, false, false, false, false] rfl rfl (any_of HT_.out (by kernel_rfl)) (fun _ _ _ h => h) (Or.inl ⟨by rfl, ?_⟩) ?_ ?_
                                                      rotate_left
                                                      · intro w'; go_simp; with_reducible rfl
                                                      rotate_left
                                                      · simp only [Act.put, List.setIfInBounds_toArray, List.set_cons_zero, List.set_cons_succ, i64_w, i32_w]; rfl
                                                      refine pure_ (i := 4) (N := some 121) (v := ?_) (a' := ?_) #[true, true, true, true, true, false, false, false, false, false, false, false, false, false, false, false, false, false, false, false, false, false, false, false, false, false, false, false, false, false, false, false, false, false, false] rfl rfl (any_of HT_.out (by kernel_rfl)) (fun _ _ _ h => h) (Or.inl ⟨by rfl, ?_⟩) ?_ ?_
                                                      rotate_left
                                                      · intro w'; go_simp; with_reducible rfl
                                                      rotate_left
                                                      · simp only [Act.put, List.setIfInBounds_toArray, List.set_cons_zero, List.set_cons_succ, i64_w, i32_w]; rfl
                                                      refine pure_ (i := 5) (N := some 122) (v := ?_) (a' := ?_) #[true, true, true, true, true, true, false, false, false, false, false, false, false, false, false, false, false, false, false, false, false, false, false, false, false, false, false, false, false, false, false, false, false, false, false] rfl rfl (any_of HT_.out (by kernel_rfl)) (fun _ _ _ h => h) (Or.inl ⟨by rfl, ?_⟩) ?_ ?_
                                                      rotate_left
                                                      · intro w'; go_simp; with_reducible rfl
                                                      rotate_left
                                                      · simp only [Act.put, List.setIfInBounds_toArray, List.set_cons_zero, List.set_cons_succ, i64_w, i32_w]; rfl
                                                      refine pure_ (i := 6) (N := some 123) (v := ?_) (a' := ?_) #[true, true, true, true, true, true, true, false, false, false, false, false, false, false, false, false, false, false, false, false, false, false, false, false, false, false, false, false, false, false, false, false, false, false, false] rfl rfl (any_of HT_.out (by kernel_rfl)) (fun _ _ _ h => h) (Or.inl ⟨by rfl, ?_⟩) ?_ ?_
                                                      rotate_left
                                                      · intro w'; go_simp; with_reducible rfl
                                                      rotate_left
                                                      · simp only [Act.put, List.setIfInBounds_toArray, List.set_cons_zero, List.set_cons_succ, i64_w, i32_w]; rfl
                                                      refine pure_ (i := 7) (N := some 124) (v := ?_) (a' := ?_) #[true, true, true, true, true, true, true, true, false, false, false, false, false, false, false, false, false, false, false, false, false, false, false, false, false, false, false, false, false, false, false, false, false, false, false] rfl rfl (any_of HT_.out (by kernel_rfl)) (fun _ _ _ h => h) (Or.inl ⟨by rfl, ?_⟩) ?_ ?_
                                                      rotate_left
                                                      · intro w'; go_simp; with_reducible rfl
                                                      rotate_left
                                                      · simp only [Act.put, List.setIfInBounds_toArray, List.set_cons_zero, List.set_cons_succ, i64_w, i32_w]; rfl
                                                      refine pure_ (i := 8) (N := some 125) (v := ?_) (a' := ?_) #[true, true, true, true, true, true, true, true, true, false, false, false, false, false, false, false, false, false, false, false, false, false, false, false, false, false, false, false, false, false, false, false, false, false, false] rfl rfl (any_of HT_.out (by kernel_rfl)) (fun _ _ _ h => h) (Or.inl ⟨by rfl, ?_⟩) ?_ ?_
                                                      rotate_left
                                                      · intro w'; go_simp; with_reducible rfl
                                                      rotate_left
                                                      · simp only [Act.put, List.setIfInBounds_toArray, List.set_cons_zero, List.set_cons_succ, i64_w, i32_w]; rfl
                                                      refine pure_ (i := 9) (N := some 126) (v := ?_) (a' := ?_) #[true, true, true, true, true, true, true, true, true, true, false, false, false, false, false, false, false, false, false, false, false, false, false, false, false, false, false, false, false, false, false, false, false, false, false] rfl rfl (any_of HT_.out (by kernel_rfl)) (fun _ _ _ h => h) (Or.inl ⟨by rfl, ?_⟩) ?_ ?_
                                                      rotate_left
                                                      · intro w'; go_simp; with_reducible rfl
                                                      rotate_left
                                                      · simp only [Act.put, List.setIfInBounds_toArray, List.set_cons_zero, List.set_cons_succ, i64_w, i32_w]; rfl
                                                      refine pure_ (i := 10) (N := some 127) (v := ?_) (a' := ?_) #[true, true, true, true, true, true, true, true, true, true, true, false, false, false, false, false, false, false, false, false, false, false, false, false, false, false, false, false, false, false, false, false, false, false, false] rfl rfl (any_of HT_.out (by kernel_rfl)) (fun _ _ _ h => h) (Or.inl ⟨by rfl, ?_⟩) ?_ ?_
                                                      rotate_left
                                                      · intro w'; go_simp; with_reducible rfl
                                                      rotate_left
                                                      · simp only [Act.put, List.setIfInBounds_toArray, List.set_cons_zero, List.set_cons_succ, i64_w, i32_w]; rfl
                                                      refine pure_ (i := 11) (N := some 128) (v := ?_) (a' := ?_) #[true, true, true, true, true, true, true, true, true, true, true, true, false, false, false, false, false, false, false, false, false, false, false, false, false, false, false, false, false, false, false, false, false, false, false] rfl rfl (any_of HT_.out (by kernel_rfl)) (fun _ _ _ h => h) (Or.inl ⟨by rfl, ?_⟩) ?_ ?_
                                                      rotate_left
                                                      · intro w'; go_simp; with_reducible rfl
                                                      rotate_left
                                                      · simp only [Act.put, List.setIfInBounds_toArray, List.set_cons_zero, List.set_cons_succ, i64_w, i32_w]; rfl
                                                      refine pure_ (i := 12) (N := some 129) (v := ?_) (a' := ?_) #[true, true, true, true, true, true, true, true, true, true, true, true, true, false, false, false, false, false, false, false, false, false, false, false, false, false, false, false, false, false, false, false, false, false, false] rfl rfl (any_of HT_.out (by kernel_rfl)) (fun _ _ _ h => h) (Or.inl ⟨by rfl, ?_⟩) ?_ ?_
                                                      rotate_left
                                                      · intro w'; go_simp; with_reducible rfl
                                                      rotate_left
                                                      · simp only [Act.put, List.setIfInBounds_toArray, List.set_cons_zero, List.set_cons_succ, i64_w, i32_w]; rfl
                                                      refine pure_ (i := 14) (N := some 131) (v := ?_) (a' := ?_) #[true, true, true, true, true, true, true, true, true, true, true, true, true, false, true, false, false, false, false, false, false, false, false, false, false, false, false, false, false, false, false, false, false, false, false] rfl rfl (any_of HT_.out (by kernel_rfl)) (fun _ _ _ h => h) (Or.inl ⟨by rfl, ?_⟩) ?_ ?_
                                                      rotate_left
                                                      · intro w'; go_simp; with_reducible rfl
                                                      rotate_left
                                                      · simp only [Act.put, List.setIfInBounds_toArray, List.set_cons_zero, List.set_cons_succ, i64_w, i32_w]; rfl
                                                      refine pure_ (i := 16) (N := some 133) (v := ?_) (a' := ?_) #[true, true, true, true, true, true, true, true, true, true, true, true, true, false, true, false, true, false, false, false, false, false, false, false, false, false, false, false, false, false, false, false, false, false, false] rfl rfl (any_of HT_.out (by kernel_rfl)) (fun _ _ _ h => h) (Or.inl ⟨by rfl, ?_⟩) ?_ ?_
                                                      rotate_left
                                                      · intro w'; go_simp; with_reducible rfl
                                                      rotate_left
                                                      · simp only [Act.put, List.setIfInBounds_toArray, List.set_cons_zero, List.set_cons_succ, i64_w, i32_w]; rfl
                                                      refine pure_ (i := 17) (N := some 134) (v := ?_) (a' := ?_) #[true, true, true, true, true, true, true, true, true, true, true, true, true, false, true, false, true, true, false, false, false, false, false, false, false, false, false, false, false, false, false, false, false, false, false] rfl rfl (any_of HT_.out (by kernel_rfl)) (fun _ _ _ h => h) (Or.inl ⟨by rfl, ?_⟩) ?_ ?_
                                                      rotate_left
                                                      · intro w'; go_simp; with_reducible rfl
                                                      rotate_left
                                                      · simp only [Act.put, List.setIfInBounds_toArray, List.set_cons_zero, List.set_cons_succ, i64_w, i32_w]; rfl
                                                      refine pure_ (i := 18) (N := some 135) (v := ?_) (a' := ?_) #[true, true, true, true, true, true, true, true, true, true, true, true, true, false, true, false, true, true, true, false, false, false, false, false, false, false, false, false, false, false, false, false, false, false, false] rfl rfl (any_of HT_.out (by kernel_rfl)) (fun _ _ _ h => h) (Or.inl ⟨by rfl, ?_⟩) ?_ ?_
                                                      rotate_left
                                                      · intro w'; go_simp; with_reducible rfl
                                                      rotate_left
                                                      · simp only [Act.put, List.setIfInBounds_toArray, List.set_cons_zero, List.set_cons_succ, i64_w, i32_w]; rfl
                                                      refine pure_ (i := 19) (N := some 136) (v := ?_) (a' := ?_) #[true, true, true, true, true, true, true, true, true, true, true, true, true, false, true, false, true, true, true, true, false, false, false, false, false, false, false, false, false, false, false, false, false, false, false] rfl rfl (any_of HT_.out (by kernel_rfl)) (fun _ _ _ h => h) (Or.inl ⟨by rfl, ?_⟩) ?_ ?_
                                                      rotate_left
                                                      · intro w'; go_simp; with_reducible rfl
                                                      rotate_left
                                                      · simp only [Act.put, List.setIfInBounds_toArray, List.set_cons_zero, List.set_cons_succ, i64_w, i32_w]; rfl
                                                      refine pure_ (i := 20) (N := some 137) (v := ?_) (a' := ?_) #[true, true, true, true, true, true, true, true, true, true, true, true, true, false, true, false, true, true, true, true, true, false, false, false, false, false, false, false, false, false, false, false, false, false, false] rfl rfl (any_of HT_.out (by kernel_rfl)) (fun _ _ _ h => h) (Or.inl ⟨by rfl, ?_⟩) ?_ ?_
                                                      rotate_left
                                                      · intro w'; go_simp; with_reducible rfl
                                                      rotate_left
                                                      · simp only [Act.put, List.setIfInBounds_toArray, List.set_cons_zero, List.set_cons_succ, i64_w, i32_w]; rfl
                                                      refine pure_ (i := 21) (N := some 138) (v := ?_) (a' := ?_) #[true, true, true, true, true, true, true, true, true, true, true, true, true, false, true, false, true, true, true, true, true, true, false, false, false, false, false, false, false, false, false, false, false, false, false] rfl rfl (any_of HT_.out (by kernel_rfl)) (fun _ _ _ h => h) (Or.inl ⟨by rfl, ?_⟩) ?_ ?_
                                                      rotate_left
                                                      · intro w'; go_simp; with_reducible rfl
                                                      rotate_left
                                                      · simp only [Act.put, List.setIfInBounds_toArray, List.set_cons_zero, List.set_cons_succ, i64_w, i32_w]; rfl
                                                      refine pure_ (i := 22) (N := some 139) (v := ?_) (a' := ?_) #[true, true, true, true, true, true, true, true, true, true, true, true, true, false, true, false, true, true, true, true, true, true, true, false, false, false, false, false, false, false, false, false, false, false, false] rfl rfl (any_of HT_.out (by kernel_rfl)) (fun _ _ _ h => h) (Or.inl ⟨by rfl, ?_⟩) ?_ ?_
                                                      rotate_left
                                                      · intro w'; go_simp; with_reducible rfl
                                                      rotate_left
                                                      · simp only [Act.put, List.setIfInBounds_toArray, List.set_cons_zero, List.set_cons_succ, i64_w, i32_w]; rfl
                                                      refine pure_ (i := 24) (N := some 141) (v := ?_) (a' := ?_) #[true, true, true, true, true, true, true, true, true, true, true, true, true, false, true, false, true, true, true, true, true, true, true, false, true, false, false, false, false, false, false, false, false, false, false] rfl rfl (any_of HT_.out (by kernel_rfl)) (fun _ _ _ h => h) (Or.inl ⟨by rfl, ?_⟩) ?_ ?_
                                                      rotate_left
                                                      · intro w'; go_simp; with_reducible rfl
                                                      rotate_left
                                                      · simp only [Act.put, List.setIfInBounds_toArray, List.set_cons_zero, List.set_cons_succ, i64_w, i32_w]; rfl
                                                      refine pure_ (i := 27) (N := some 144) (v := ?_) (a' := ?_) #[true, true, true, true, true, true, true, true, true, true, true, true, true, false, true, false, true, true, true, true, true, true, true, false, true, false, false, true, false, false, false, false, false, false, false] rfl rfl (any_of HT_.out (by kernel_rfl)) (fun _ _ _ h => h) (Or.inl ⟨by rfl, ?_⟩) ?_ ?_
                                                      rotate_left
                                                      · intro w'; go_simp; with_reducible rfl
                                                      rotate_left
                                                      · simp only [Act.put, List.setIfInBounds_toArray, List.set_cons_zero, List.set_cons_succ, i64_w, i32_w]; rfl
                                                      refine pure_ (i := 29) (N := some 146) (v := ?_) (a' := ?_) #[true, true, true, true, true, true, true, true, true, true, true, true, true, false, true, false, true, true, true, true, true, true, true, false, true, false, false, true, false, true, false, false, false, false, false] rfl rfl (any_of HT_.out (by kernel_rfl)) (fun _ _ _ h => h) (Or.inl ⟨by rfl, ?_⟩) ?_ ?_
                                                      rotate_left
                                                      · intro w'; go_simp; with_reducible rfl
                                                      rotate_left
                                                      · simp only [Act.put, List.setIfInBounds_toArray, List.set_cons_zero, List.set_cons_succ, i64_w, i32_w]; rfl
                                                      refine pure_ (i := 31) (N := some 148) (v := ?_) (a' := ?_) #[true, true, true, true, true, true, true, true, true, true, true, true, true, false, true, false, true, true, true, true, true, true, true, false, true, false, false, true, false, true, false, true, false, false, false] rfl rfl (any_of HT_.out (by kernel_rfl)) (fun _ _ _ h => h) (Or.inl ⟨by rfl, ?_⟩) ?_ ?_
                                                      rotate_left
                                                      · intro w'; go_simp; with_reducible rfl
                                                      rotate_left
                                                      · simp only [Act.put, List.setIfInBounds_toArray, List.set_cons_zero, List.set_cons_succ, i64_w, i32_w]; rfl
                                                      refine take_ (i := 13) (N := some 130) (v := ?_) (a' := ?_) #[true, true, true, true, true, true, true, true, true, true, true, true, true, true, true, false, true, true, true, true, true, true, true, false, true, false, false, true, false, true, false, true, false, false, false] rfl rfl (take_ofW HT_.out HW_.out (by kernel_rfl)) (fun _ _ _ h => h) (Or.inl ⟨by rfl, ?_⟩) hHeld ?_ ?_
                                                      rotate_left
                                                      · rintro w' ⟨s0, s1⟩; go_simp; with_reducible rfl
                                                      rotate_left
                                                      · simp only [Act.put, List.setIfInBounds_toArray, List.set_cons_zero, List.set_cons_succ, i64_w, i32_w]; rfl
                                                      refine pure_ (i := 15) (N := some 132) (v := ?_) (a' := ?_) #[true, true, true, true, true, true, true, true, true, true, true, true, true, true, true, true, true, true, true, true, true, true, true, false, true, false, false, true, false, true, false, true, false, false, false] rfl rfl (any_of HT_.out (by kernel_rfl)) (fun _ _ _ h => h) (Or.inl ⟨by rfl, ?_⟩) ?_ ?_
                                                      rotate_left
                                                      · intro w'; go_simp; with_reducible rfl
                                                      rotate_left
                                                      · simp only [Act.put, List.setIfInBounds_toArray, List.set_cons_zero, List.set_cons_succ, i64_w, i32_w]; rfl
                                                      refine take_ (i := 23) (N := some 140) (v := ?_) (a' := ?_) #[true, true, true, true, true, true, true, true, true, true, true, true, true, true, true, true, true, true, true, true, true, true, true, true, true, false, false, true, false, true, false, true, false, false, false] rfl rfl (take_ofW HT_.out HW_.out (by kernel_rfl)) (fun _ _ _ h => h) (Or.inl ⟨by rfl, ?_⟩) hHeld ?_ ?_
                                                      rotate_left
                                                      · rintro w' ⟨s0, s1⟩; go_simp; with_reducible rfl
                                                      rotate_left
                                                      · simp only [Act.put, List.setIfInBounds_toArray, List.set_cons_zero, List.set_cons_succ, i64_w, i32_w]; rfl
                                                      refine pure_ (i := 25) (N := some 142) (v := ?_) (a' := ?_) #[true, true, true, true, true, true, true, true, true, true, true, true, true, true, true, true, true, true, true, true, true, true, true, true, true, true, false, true, false, true, false, true, false, false, false] rfl rfl (any_of HT_.out (by kernel_rfl)) (fun _ _ _ h => h) (Or.inl ⟨by rfl, ?_⟩) ?_ ?_
                                                      rotate_left
                                                      · intro w'; go_simp; with_reducible rfl
                                                      rotate_left
                                                      · simp only [Act.put, List.setIfInBounds_toArray, List.set_cons_zero, List.set_cons_succ, i64_w, i32_w]; rfl
                                                      refine pure_ (i := 26) (N := some 143) (v := ?_) (a' := ?_) #[true, true, true, true, true, true, true, true, true, true, true, true, true, true, true, true, true, true, true, true, true, true, true, true, true, true, true, true, false, true, false, true, false, false, false] rfl rfl (any_of HT_.out (by kernel_rfl)) (fun _ _ _ h => h) (Or.inl ⟨by rfl, ?_⟩) ?_ ?_
                                                      rotate_left
                                                      · intro w'; go_simp; with_reducible rfl
                                                      rotate_left
                                                      · simp only [Act.put, List.setIfInBounds_toArray, List.set_cons_zero, List.set_cons_succ, i64_w, i32_w]; rfl
                                                      refine pure_ (i := 28) (N := some 145) (v := ?_) (a' := ?_) #[true, true, true, true, true, true, true, true, true, true, true, true, true, true, true, true, true, true, true, true, true, true, true, true, true, true, true, true, true, true, false, true, false, false, false] rfl rfl (any_of HT_.out (by kernel_rfl)) (fun _ _ _ h => h) (Or.inl ⟨by rfl, ?_⟩) ?_ ?_
                                                      rotate_left
                                                      · intro w'; go_simp; with_reducible rfl
                                                      rotate_left
                                                      · simp only [Act.put, List.setIfInBounds_toArray, List.set_cons_zero, List.set_cons_succ, i64_w, i32_w]; rfl
                                                      refine pure_ (i := 30) (N := some 147) (v := ?_) (a' := ?_) #[true, true, true, true, true, true, true, true, true, true, true, true, true, true, true, true, true, true, true, true, true, true, true, true, true, true, true, true, true, true, true, true, false, false, false] rfl rfl (any_of HT_.out (by kernel_rfl)) (fun _ _ _ h => h) (Or.inl ⟨by rfl, ?_⟩) ?_ ?_
                                                      rotate_left
                                                      · intro w'; go_simp; with_reducible rfl
                                                      rotate_left
                                                      · simp only [Act.put, List.setIfInBounds_toArray, List.set_cons_zero, List.set_cons_succ, i64_w, i32_w]; rfl
                                                      refine pure_ (i := 32) (N := some 149) (v := ?_) (a' := ?_) #[true, true, true, true, true, true, true, true, true, true, true, true, true, true, true, true, true, true, true, true, true, true, true, true, true, true, true, true, true, true, true, true, true, false, false] rfl rfl (any_of HT_.out (by kernel_rfl)) (fun _ _ _ h => h) (Or.inl ⟨by rfl, ?_⟩) ?_ ?_
                                                      rotate_left
                                                      · intro w'; go_simp; with_reducible rfl
                                                      rotate_left
                                                      · simp only [Act.put, List.setIfInBounds_toArray, List.set_cons_zero, List.set_cons_succ, i64_w, i32_w]; rfl
                                                      refine pure_ (i := 33) (N := some 150) (v := ?_) (a' := ?_) #[true, true, true, true, true, true, true, true, true, true, true, true, true, true, true, true, true, true, true, true, true, true, true, true, true, true, true, true, true, true, true, true, true, true, false] rfl rfl (any_of HT_.out (by kernel_rfl)) (fun _ _ _ h => h) (Or.inl ⟨by rfl, ?_⟩) ?_ ?_
                                                      rotate_left
                                                      · intro w'; go_simp; with_reducible rfl
                                                      rotate_left
                                                      · simp only [Act.put, List.setIfInBounds_toArray, List.set_cons_zero, List.set_cons_succ, i64_w, i32_w]; rfl
                                                      refine last_ (i := 34) (N := none) #[true, true, true, true, true, true, true, true, true, true, true, true, true, true, true, true, true, true, true, true, true, true, true, true, true, true, true, true, true, true, true, true, true, true, true] rfl rfl (one_of HT_.out (by kernel_rfl)) (by decide) (fun K hK => ?_)
                                                      refine skip_ (w1 := ?_) (by rfl) rfl ?_ ?_
                                                      rotate_left
                                                      · go_simp
                                                        rfl
                                                      refine hK.out _ _ ?_
                                                      clear hK K
                                                      refine done_ (done_of HT_.out (by kernel_rfl)) ?_
                                                      try go_wp2
                                                      (try simp only [← hl11_5])
                                                      go_roundg k5
                                                      case measure => have := HK1.out; have := HJ12.out; have := HK3.out; have := HK4.out; have := HK5.out; omega
                                                      case rel => exact ⟨(y259), (wrap64 (x20_5 + 1)), (sqD), H', ⟨by have := HK1.out; have := HJ12.out; have := HK3.out; have := HK4.out; have := HK5.out; omega⟩, ⟨by (try simp only [hl11_5]); refine sqR ?_; exact HQ54.out⟩, ⟨by repeat (first | (with_reducible first | exact HB.out | apply below_alloc | apply pw_below_drewN | apply below_drew1 | refine below_set ?_ GB52.out) | exact HB.out)⟩⟩
                                                  · rw [if_neg c50] at H
                                                    exact absurd H (by simp)
                                                · rw [if_neg c49] at H
                                                  exact absurd H (by simp)
                                              · rw [if_neg c47] at H
                                                exact absurd H (by simp)
                                            · rw [if_neg c46] at H
                                              exact absurd H (by simp)
                                          · rw [if_neg c44] at H
                                            have c44b0 : decide (x20_5 < a2) = false := decide_eq_false c44
                                            clear c44
                                            have H' := Aside0.mk H
                                            clear H
                                            go_wp2
                                            (try simp only [← hl11_5])
                                            go_roundg k5
                                            case measure => have := HK1.out; have := HJ12.out; have := HK3.out; have := HK4.out; have := HK5.out; omega
                                            case rel => exact ⟨(x11_5), (wrap64 (x17_4 + 1)), (sqD), H', ⟨by have := HK1.out; have := HJ12.out; have := HK3.out; have := HK4.out; have := HK5.out; omega⟩, ⟨by (try simp only [hl11_5]); refine sqR ?_; exact HO_11.out⟩, ⟨sqB⟩⟩
                                    · rw [if_neg c42] at H
                                      exact absurd H (by simp)
                                  · rw [if_neg c41] at H
                                    exact absurd H (by simp)
                                · rw [if_neg c39] at H
                                  exact absurd H (by simp)
                              · rw [if_neg c38] at H
                                exact absurd H (by simp)
                            · rw [if_neg c36] at H
                              have c36b0 : decide (x17_4 < a1) = false := decide_eq_false c36
                              clear c36
                              have H' := Aside0.mk H
                              clear H
                              go_wp2
                              go_roundg k4
                              case measure => have := HK1.out; have := HJ12.out; have := HK3.out; have := HK4.out; omega
                              case rel => exact ⟨(x11_4), (wrap64 (x12_1 + 1)), (wrap64 (x13_1 + 1)), (sqD), (sqD), H', ⟨by have := HK1.out; have := HJ12.out; have := HK3.out; have := HK4.out; omega⟩, ⟨sqR HO_11.out⟩, ⟨sqB⟩⟩
          · replace c12 := Bool.eq_false_iff.mpr c12
            subst c12
            have H1 : (spec_l4Rank.l0 k1 a0 a1 a2 a4 x11_1 x12_1 (wrap64 (x13_1 + 1))) = some r := by rw [if_neg (show ¬ (false = true) by decide)] at H; exact H
            clear H
            have H := H1
            clear H1
            have H' := Aside0.mk H
            clear H
            go_wp2_with (first | ((with_reducible refine gate_callee (f := 70) rfl ?_); refine goesL_ (some 31) rfl rfl Try.func70 (by kernel_rfl) rfl #[.int .i64 a4, .int .i64 x13_1] rfl sqM ?_; (with_reducible refine (spec_l2Has.calls a4 x13_1 false _ A11.out).mono ?_); rintro e w' ⟨rfl, ⟨nd, rfl⟩⟩; refine ⟨_, rfl, ?_⟩))
            go_roundg k1
            case measure => have := HK1.out; omega
            case rel => exact ⟨(x11_1), (x12_1), (wrap64 (x13_1 + 1)), (sqD), (sqD), H', ⟨by have := HK1.out; omega⟩, ⟨sqR HO_11.out⟩, ⟨sqB⟩⟩
        · rw [if_neg c10] at H
          have c10b0 : decide (x13_1 < a2) = false := decide_eq_false c10
          clear c10
          obtain rfl := Option.some.inj H
          go_wp2
          go_ret
          exact ⟨sqE, sqB⟩
  · rw [if_neg c6] at H
    exact absurd H (by simp)

def spec_MatrixRank.f (k : Nat) (a0_0 : Int) (a0_1 : Int) (a0_2 : Int) (l0_3 : List Int) (a1 : Int) : Option (Int) := (spec_IsMatrix.f k a0_0 a0_1 a0_2 l0_3).bind fun t261 => (if t261 = true then ((spec_IsSet.f a0_2 a1).bind fun t262 => (if t262 = true then ((spec_l4Rank.f k a0_0 a0_1 a0_2 l0_3 a1).bind fun t263 => (some t263)) else (some (-1)))) else (some (-1)))
set_option maxHeartbeats 8000000 in
set_option maxRecDepth 100000 in
theorem spec_MatrixRank.calls (k : Nat) (a0_0 : Int) (a0_1 : Int) (a0_2 : Int) (A0_3 : Option Addr) (c0_3 : Nat) (l0_3 : List Int) (a1 : Int) (r : Int) (w : World) (hr0_3 : Kd.C (Kd.int .i64) w A0_3 l0_3.length l0_3) (hc0_3 : l0_3.length ≤ c0_3) (h : spec_MatrixRank.f k a0_0 a0_1 a0_2 l0_3 a1 = some r) :
    Calls Try.prog 30 #[.agg #[.int .i64 a0_0, .int .i64 a0_1, .int .i64 a0_2, .slice A0_3 l0_3.length c0_3], .int .i64 a1] w fun e w' => e = .returned (.int .i64 r) ∧ Below w.heap.size w w' := by
  have hu27 := Try.underlying27
  have HR0_3 := Aside0.mk hr0_3
  have HC0_3 := Aside0.mk hc0_3
  clear hr0_3 hc0_3
  have HB := Aside0.mk (Below.refl w.heap.size w)
  have H : ((spec_IsMatrix.f k a0_0 a0_1 a0_2 l0_3).bind fun t261 => (if t261 = true then ((spec_IsSet.f a0_2 a1).bind fun t262 => (if t262 = true then ((spec_l4Rank.f k a0_0 a0_1 a0_2 l0_3 a1).bind fun t263 => (some t263)) else (some (-1)))) else (some (-1)))) = some r := h
  clear h
  replace H := Option.bind_eq_some_iff.mp H
  obtain ⟨t261, A30, H⟩ := H
  replace H : (if t261 = true then ((spec_IsSet.f a0_2 a1).bind fun t262 => (if t262 = true then ((spec_l4Rank.f k a0_0 a0_1 a0_2 l0_3 a1).bind fun t263 => (some t263)) else (some (-1)))) else (some (-1))) = some r := H
  have A3 := Aside0.mk A30
  clear A30
  by_cases c4 : t261 = true
  · subst c4
    have H1 : ((spec_IsSet.f a0_2 a1).bind fun t262 => (if t262 = true then ((spec_l4Rank.f k a0_0 a0_1 a0_2 l0_3 a1).bind fun t263 => (some t263)) else (some (-1)))) = some r := by rw [if_pos rfl] at H; exact H
    clear H
    have H := H1
    clear H1
    replace H := Option.bind_eq_some_iff.mp H
    obtain ⟨t262, A50, H⟩ := H
    replace H : (if t262 = true then ((spec_l4Rank.f k a0_0 a0_1 a0_2 l0_3 a1).bind fun t263 => (some t263)) else (some (-1))) = some r := H
    have A5 := Aside0.mk A50
    clear A50
    by_cases c6 : t262 = true
    · subst c6
      have H1 : ((spec_l4Rank.f k a0_0 a0_1 a0_2 l0_3 a1).bind fun t263 => (some t263)) = some r := by rw [if_pos rfl] at H; exact H
      clear H
      have H := H1
      clear H1
      replace H := Option.bind_eq_some_iff.mp H
      obtain ⟨t263, A70, H⟩ := H
      replace H : (some t263) = some r := H
      have A7 := Aside0.mk A70
      clear A70
      obtain rfl := Option.some.inj H
      go_enter Try.func30, Try.ntmps30
      go_wp2_with (first | ((with_reducible refine gate_dst (N := 2) rfl ?_); refine box_event ?hg (N := 2) ?hd (cs := #[.int .i64 a0_0, .int .i64 a0_1, .int .i64 a0_2, .slice A0_3 l0_3.length c0_3]) (t := 27) ?hr ?_; (case hd => rfl); (case hg => rfl); (case hr => exact sqG); intro gb260 hg w8 hbox hb; have n0_ := Aside0.mk (below_step sqB hb); have n1_ := Aside0.mk (hbox); have n2_ := Aside0.mk ((sqS hg : w.heap.size ≤ gb260)); have n3_ := Aside0.mk ((sqS hg : w.heap.size ≤ gb260)); clear HB; have HB := n0_; have BK260 := n1_; have GW260 := n2_; have GE260 := n3_; clear n0_ n1_ n2_ n3_; clear hb hbox hg; have hcz9_0 : w8.cell? ⟨gb260, 0, none⟩ = some (.int .i64 a0_0) := (blk_cell BK260.out 0).trans rfl; have hcz9_1 : w8.cell? ⟨gb260, 1, none⟩ = some (.int .i64 a0_1) := (blk_cell BK260.out 1).trans rfl; have hcz9_2 : w8.cell? ⟨gb260, 2, none⟩ = some (.int .i64 a0_2) := (blk_cell BK260.out 2).trans rfl; have hcz9_3 : w8.cell? ⟨gb260, 3, none⟩ = some (.slice A0_3 l0_3.length c0_3) := (blk_cell BK260.out 3).trans rfl; have hfz9_0 := blk_frozen BK260.out 0; have hfz9_1 := blk_frozen BK260.out 1; have hfz9_2 := blk_frozen BK260.out 2; have hfz9_3 := blk_frozen BK260.out 3) | ((with_reducible refine gate_callee (f := 37) rfl ?_); refine goesL_ (some 6) rfl rfl Try.func37 (by kernel_rfl) rfl #[.agg #[.int .i64 a0_0, .int .i64 a0_1, .int .i64 a0_2, .slice A0_3 l0_3.length c0_3]] rfl sqM ?_; (with_reducible refine (spec_IsMatrix.calls k a0_0 a0_1 a0_2 _ _ l0_3 true _ ?side1 ?side2 A3.out).mono ?_); (case side1 => exact sqC (Kd.C_below HR0_3.out HB.out)); (case side2 => exact HC0_3.out); rintro e w10 ⟨rfl, hb⟩; refine ⟨_, rfl, ?_⟩; have n0_ := Aside0.mk (blk_below (g := gb260) (o := .cells #[.int .i64 a0_0, .int .i64 a0_1, .int .i64 a0_2, .slice A0_3 l0_3.length c0_3] 27 (0, 0)) (sqK BK260.out) hb); have n1_ := Aside0.mk (below_step sqB hb); clear BK260; clear HB; have BK260 := n0_; have HB := n1_; clear n0_ n1_; (try clear hb); (try clear hb2); (try clear hk); (try clear hi); have hcz11_0 : w10.cell? ⟨gb260, 0, none⟩ = some (.int .i64 a0_0) := (blk_cell BK260.out 0).trans rfl; have hcz11_1 : w10.cell? ⟨gb260, 1, none⟩ = some (.int .i64 a0_1) := (blk_cell BK260.out 1).trans rfl; have hcz11_2 : w10.cell? ⟨gb260, 2, none⟩ = some (.int .i64 a0_2) := (blk_cell BK260.out 2).trans rfl; have hcz11_3 : w10.cell? ⟨gb260, 3, none⟩ = some (.slice A0_3 l0_3.length c0_3) := (blk_cell BK260.out 3).trans rfl; have hfz11_0 := blk_frozen BK260.out 0; have hfz11_1 := blk_frozen BK260.out 1; have hfz11_2 := blk_frozen BK260.out 2; have hfz11_3 := blk_frozen BK260.out 3) | (go_at_call 49; (try simp only [i64_w, i32_w]); (with_reducible refine (spec_IsSet.calls a0_2 a1 true _ A5.out).mono ?_); rintro e w' ⟨rfl, ⟨nd, rfl⟩⟩) | ((with_reducible refine gate_callee (f := 57) rfl ?_); refine goesL_ (some 24) rfl rfl Try.func57 (by kernel_rfl) rfl #[.int .i64 a0_0, .int .i64 a0_1, .int .i64 a0_2, .slice A0_3 l0_3.length c0_3, .int .i64 a1] rfl sqM ?_; (with_reducible refine (spec_l4Rank.calls k a0_0 a0_1 a0_2 _ _ l0_3 a1 t263 _ ?side1 ?side2 A7.out).mono ?_); (case side1 => exact sqC (Kd.C_below HR0_3.out sqB)); (case side2 => exact HC0_3.out); rintro e w12 ⟨rfl, hb⟩; refine ⟨_, rfl, ?_⟩; have n0_ := Aside0.mk (blk_below (g := gb260) (o := .cells #[.int .i64 a0_0, .int .i64 a0_1, .int .i64 a0_2, .slice A0_3 l0_3.length c0_3] 27 (0, 0)) (sqK BK260.out) hb); have n1_ := Aside0.mk (below_step sqB hb); clear BK260; clear HB; have BK260 := n0_; have HB := n1_; clear n0_ n1_; (try clear hb); (try clear hb2); (try clear hk); (try clear hi)))
      go_ret
      exact ⟨sqE, sqB⟩
    · replace c6 := Bool.eq_false_iff.mpr c6
      subst c6
      have H1 : (some (-1)) = some r := by rw [if_neg (show ¬ (false = true) by decide)] at H; exact H
      clear H
      have H := H1
      clear H1
      obtain rfl := Option.some.inj H
      go_enter Try.func30, Try.ntmps30
      go_wp2_with (first | ((with_reducible refine gate_dst (N := 2) rfl ?_); refine box_event ?hg (N := 2) ?hd (cs := #[.int .i64 a0_0, .int .i64 a0_1, .int .i64 a0_2, .slice A0_3 l0_3.length c0_3]) (t := 27) ?hr ?_; (case hd => rfl); (case hg => rfl); (case hr => exact sqG); intro gb260 hg w13 hbox hb; have n0_ := Aside0.mk (below_step sqB hb); have n1_ := Aside0.mk (hbox); have n2_ := Aside0.mk ((sqS hg : w.heap.size ≤ gb260)); have n3_ := Aside0.mk ((sqS hg : w.heap.size ≤ gb260)); clear HB; have HB := n0_; have BK260 := n1_; have GW260 := n2_; have GE260 := n3_; clear n0_ n1_ n2_ n3_; clear hb hbox hg; have hcz14_0 : w13.cell? ⟨gb260, 0, none⟩ = some (.int .i64 a0_0) := (blk_cell BK260.out 0).trans rfl; have hcz14_1 : w13.cell? ⟨gb260, 1, none⟩ = some (.int .i64 a0_1) := (blk_cell BK260.out 1).trans rfl; have hcz14_2 : w13.cell? ⟨gb260, 2, none⟩ = some (.int .i64 a0_2) := (blk_cell BK260.out 2).trans rfl; have hcz14_3 : w13.cell? ⟨gb260, 3, none⟩ = some (.slice A0_3 l0_3.length c0_3) := (blk_cell BK260.out 3).trans rfl; have hfz14_0 := blk_frozen BK260.out 0; have hfz14_1 := blk_frozen BK260.out 1; have hfz14_2 := blk_frozen BK260.out 2; have hfz14_3 := blk_frozen BK260.out 3) | ((with_reducible refine gate_callee (f := 37) rfl ?_); refine goesL_ (some 6) rfl rfl Try.func37 (by kernel_rfl) rfl #[.agg #[.int .i64 a0_0, .int .i64 a0_1, .int .i64 a0_2, .slice A0_3 l0_3.length c0_3]] rfl sqM ?_; (with_reducible refine (spec_IsMatrix.calls k a0_0 a0_1 a0_2 _ _ l0_3 true _ ?side1 ?side2 A3.out).mono ?_); (case side1 => exact sqC (Kd.C_below HR0_3.out HB.out)); (case side2 => exact HC0_3.out); rintro e w15 ⟨rfl, hb⟩; refine ⟨_, rfl, ?_⟩; have n0_ := Aside0.mk (blk_below (g := gb260) (o := .cells #[.int .i64 a0_0, .int .i64 a0_1, .int .i64 a0_2, .slice A0_3 l0_3.length c0_3] 27 (0, 0)) (sqK BK260.out) hb); have n1_ := Aside0.mk (below_step sqB hb); clear BK260; clear HB; have BK260 := n0_; have HB := n1_; clear n0_ n1_; (try clear hb); (try clear hb2); (try clear hk); (try clear hi); have hcz16_0 : w15.cell? ⟨gb260, 0, none⟩ = some (.int .i64 a0_0) := (blk_cell BK260.out 0).trans rfl; have hcz16_1 : w15.cell? ⟨gb260, 1, none⟩ = some (.int .i64 a0_1) := (blk_cell BK260.out 1).trans rfl; have hcz16_2 : w15.cell? ⟨gb260, 2, none⟩ = some (.int .i64 a0_2) := (blk_cell BK260.out 2).trans rfl; have hcz16_3 : w15.cell? ⟨gb260, 3, none⟩ = some (.slice A0_3 l0_3.length c0_3) := (blk_cell BK260.out 3).trans rfl; have hfz16_0 := blk_frozen BK260.out 0; have hfz16_1 := blk_frozen BK260.out 1; have hfz16_2 := blk_frozen BK260.out 2; have hfz16_3 := blk_frozen BK260.out 3) | (go_at_call 49; (try simp only [i64_w, i32_w]); (with_reducible refine (spec_IsSet.calls a0_2 a1 false _ A5.out).mono ?_); rintro e w' ⟨rfl, ⟨nd, rfl⟩⟩))
      go_ret
      exact ⟨sqE, sqB⟩
  · replace c4 := Bool.eq_false_iff.mpr c4
    subst c4
    have H1 : (some (-1)) = some r := by rw [if_neg (show ¬ (false = true) by decide)] at H; exact H
    clear H
    have H := H1
    clear H1
    obtain rfl := Option.some.inj H
    go_enter Try.func30, Try.ntmps30
    go_wp2_with (first | ((with_reducible refine gate_dst (N := 2) rfl ?_); refine box_event ?hg (N := 2) ?hd (cs := #[.int .i64 a0_0, .int .i64 a0_1, .int .i64 a0_2, .slice A0_3 l0_3.length c0_3]) (t := 27) ?hr ?_; (case hd => rfl); (case hg => rfl); (case hr => exact sqG); intro gb260 hg w17 hbox hb; have n0_ := Aside0.mk (below_step sqB hb); have n1_ := Aside0.mk (hbox); have n2_ := Aside0.mk ((sqS hg : w.heap.size ≤ gb260)); have n3_ := Aside0.mk ((sqS hg : w.heap.size ≤ gb260)); clear HB; have HB := n0_; have BK260 := n1_; have GW260 := n2_; have GE260 := n3_; clear n0_ n1_ n2_ n3_; clear hb hbox hg; have hcz18_0 : w17.cell? ⟨gb260, 0, none⟩ = some (.int .i64 a0_0) := (blk_cell BK260.out 0).trans rfl; have hcz18_1 : w17.cell? ⟨gb260, 1, none⟩ = some (.int .i64 a0_1) := (blk_cell BK260.out 1).trans rfl; have hcz18_2 : w17.cell? ⟨gb260, 2, none⟩ = some (.int .i64 a0_2) := (blk_cell BK260.out 2).trans rfl; have hcz18_3 : w17.cell? ⟨gb260, 3, none⟩ = some (.slice A0_3 l0_3.length c0_3) := (blk_cell BK260.out 3).trans rfl; have hfz18_0 := blk_frozen BK260.out 0; have hfz18_1 := blk_frozen BK260.out 1; have hfz18_2 := blk_frozen BK260.out 2; have hfz18_3 := blk_frozen BK260.out 3) | ((with_reducible refine gate_callee (f := 37) rfl ?_); refine goesL_ (some 6) rfl rfl Try.func37 (by kernel_rfl) rfl #[.agg #[.int .i64 a0_0, .int .i64 a0_1, .int .i64 a0_2, .slice A0_3 l0_3.length c0_3]] rfl sqM ?_; (with_reducible refine (spec_IsMatrix.calls k a0_0 a0_1 a0_2 _ _ l0_3 false _ ?side1 ?side2 A3.out).mono ?_); (case side1 => exact sqC (Kd.C_below HR0_3.out HB.out)); (case side2 => exact HC0_3.out); rintro e w19 ⟨rfl, hb⟩; refine ⟨_, rfl, ?_⟩; have n0_ := Aside0.mk (blk_below (g := gb260) (o := .cells #[.int .i64 a0_0, .int .i64 a0_1, .int .i64 a0_2, .slice A0_3 l0_3.length c0_3] 27 (0, 0)) (sqK BK260.out) hb); have n1_ := Aside0.mk (below_step sqB hb); clear BK260; clear HB; have BK260 := n0_; have HB := n1_; clear n0_ n1_; (try clear hb); (try clear hb2); (try clear hk); (try clear hi)))
    go_ret
    exact ⟨sqE, sqB⟩

def impl_IsSet.f (a0 : Int) (a1 : Int) : Option (Bool) := (impl_isSize.f a0).bind fun t269 => (if t269 = true then (if a1 ≥ 0 then (if 0 ≤ a0 then (some (decide (a1 < (shl .i64 1 a0)))) else (none)) else (some false)) else (some false))
set_option maxHeartbeats 8000000 in
set_option maxRecDepth 100000 in
theorem impl_IsSet.calls (a0 : Int) (a1 : Int) (r : Bool) (w : World) (h : impl_IsSet.f a0 a1 = some r) :
    Calls Try.prog 51 #[.int .i64 a0, .int .i64 a1] w fun e w' => e = .returned (.bool r) ∧ Drawn0 w w' := by
  have H : ((impl_isSize.f a0).bind fun t269 => (if t269 = true then (if a1 ≥ 0 then (if 0 ≤ a0 then (some (decide (a1 < (shl .i64 1 a0)))) else (none)) else (some false)) else (some false))) = some r := h
  clear h
  replace H := Option.bind_eq_some_iff.mp H
  obtain ⟨t269, A30, H⟩ := H
  replace H : (if t269 = true then (if a1 ≥ 0 then (if 0 ≤ a0 then (some (decide (a1 < (shl .i64 1 a0)))) else (none)) else (some false)) else (some false)) = some r := H
  have A3 := Aside0.mk A30
  clear A30
  by_cases c4 : t269 = true
  · subst c4
    have H1 : (if a1 ≥ 0 then (if 0 ≤ a0 then (some (decide (a1 < (shl .i64 1 a0)))) else (none)) else (some false)) = some r := by rw [if_pos rfl] at H; exact H
    clear H
    have H := H1
    clear H1
    by_cases c5 : a1 ≥ 0
    · rw [if_pos c5] at H
      have c5b0 : decide (0 ≤ a1) = true := decide_eq_true c5
      clear c5
      by_cases c6 : 0 ≤ a0
      · rw [if_pos c6] at H
        have c6b0 := eq_true c6
        have c6b1 : decide (0 ≤ a0) = true := decide_eq_true c6
        clear c6
        obtain ⟨ji7, hji7⟩ : ∃ j_ : Int, (shl .i64 1 a0) = j_ := ⟨_, rfl⟩
        replace H : (some (decide (a1 < (ji7)))) = some r := by first | (rw [hji7] at H; exact H) | (simp only [hji7] at H ⊢; exact H)
        (try rw [hji7] at A3)
        have hji7_ : (IntKind.i64.wrap (1 * 2 ^ min a0.toNat 64)) = ji7 := hji7
        have hji7z : a0 ≤ 64 → (IntKind.i64.wrap (1 * 2 ^ a0.toNat)) = ji7 := shl_small hji7
        have hji7u : (IntKind.i64.wrap (2 ^ min a0.toNat 64)) = ji7 := by have h_ := hji7_; rw [Int.one_mul] at h_; exact h_
        have hji7v : a0 ≤ 64 → (IntKind.i64.wrap (2 ^ a0.toNat)) = ji7 := fun hle_ => by have h_ := hji7z hle_; rw [Int.one_mul] at h_; exact h_
        have hji7y : (wrap64 (1 * 2 ^ min a0.toNat 64)) = ji7 := (i64_w _).symm.trans hji7_
        have hji7x : a0 ≤ 64 → (wrap64 (1 * 2 ^ a0.toNat)) = ji7 := fun h_ => (i64_w _).symm.trans (hji7z h_)
        obtain rfl := Option.some.inj H
        go_enter Try.func51, Try.ntmps51
        go_wp2_with (first | ((with_reducible refine gate_callee (f := 68) rfl ?_); refine goesL_ (some 6) rfl rfl Try.func68 (by kernel_rfl) rfl #[.int .i64 a0] rfl sqM ?_; (with_reducible refine (impl_isSize.calls a0 true _ A3.out).mono ?_); rintro e w' ⟨rfl, ⟨nd, rfl⟩⟩; refine ⟨_, rfl, ?_⟩))
        go_ret
        exact ⟨by first | rfl | (simp; done) | (simp only [← hji7] <;> (first | rfl | simp)) | (simp [*]; done), by repeat (first | exact Drawn0.refl _ | apply Drawn0.step)⟩
      · rw [if_neg c6] at H
        exact absurd H (by simp)
    · rw [if_neg c5] at H
      have c5b0 : decide (0 ≤ a1) = false := decide_eq_false c5
      clear c5
      obtain rfl := Option.some.inj H
      go_enter Try.func51, Try.ntmps51
      go_wp2_with (first | ((with_reducible refine gate_callee (f := 68) rfl ?_); refine goesL_ (some 6) rfl rfl Try.func68 (by kernel_rfl) rfl #[.int .i64 a0] rfl sqM ?_; (with_reducible refine (impl_isSize.calls a0 true _ A3.out).mono ?_); rintro e w' ⟨rfl, ⟨nd, rfl⟩⟩; refine ⟨_, rfl, ?_⟩))
      go_ret
      exact ⟨sqD, by repeat (first | exact Drawn0.refl _ | apply Drawn0.step)⟩
  · replace c4 := Bool.eq_false_iff.mpr c4
    subst c4
    have H1 : (some false) = some r := by rw [if_neg (show ¬ (false = true) by decide)] at H; exact H
    clear H
    have H := H1
    clear H1
    obtain rfl := Option.some.inj H
    go_enter Try.func51, Try.ntmps51
    go_wp2_with (first | ((with_reducible refine gate_callee (f := 68) rfl ?_); refine goesL_ (some 6) rfl rfl Try.func68 (by kernel_rfl) rfl #[.int .i64 a0] rfl sqM ?_; (with_reducible refine (impl_isSize.calls a0 false _ A3.out).mono ?_); rintro e w' ⟨rfl, ⟨nd, rfl⟩⟩; refine ⟨_, rfl, ?_⟩))
    go_ret
    exact ⟨sqD, by repeat (first | exact Drawn0.refl _ | apply Drawn0.step)⟩

def impl_isAny.f (a0 : Int) : Option (Bool) := if a0 ≥ 0 then (some (decide (a0 < 256))) else (some false)
set_option maxHeartbeats 8000000 in
set_option maxRecDepth 100000 in
theorem impl_isAny.calls (a0 : Int) (r : Bool) (w : World) (h : impl_isAny.f a0 = some r) :
    Calls Try.prog 76 #[.int .i64 a0] w fun e w' => e = .returned (.bool r) ∧ Drawn0 w w' := by
  have H : (if a0 ≥ 0 then (some (decide (a0 < 256))) else (some false)) = some r := h
  clear h
  by_cases c2 : a0 ≥ 0
  · rw [if_pos c2] at H
    have c2b0 : decide (0 ≤ a0) = true := decide_eq_true c2
    clear c2
    obtain rfl := Option.some.inj H
    go_enter Try.func76, Try.ntmps76
    go_wp2
    go_ret
    exact ⟨sqD, by repeat (first | exact Drawn0.refl _ | apply Drawn0.step)⟩
  · rw [if_neg c2] at H
    have c2b0 : decide (0 ≤ a0) = false := decide_eq_false c2
    clear c2
    obtain rfl := Option.some.inj H
    go_enter Try.func76, Try.ntmps76
    go_wp2
    go_ret
    exact ⟨sqD, by repeat (first | exact Drawn0.refl _ | apply Drawn0.step)⟩

def impl_HasElement.f (a0 : Int) (a1 : Int) : Option (Bool) := (impl_isAny.f a0).bind fun t273 => (if t273 = true then (if a1 ≥ 0 then (if a1 < 8 then (if 0 ≤ a1 then (some ((Go.bits .and .i64 (shr .i64 a0 a1) 1) == 1)) else (none)) else (some false)) else (some false)) else (some false))
set_option maxHeartbeats 8000000 in
set_option maxRecDepth 100000 in
theorem impl_HasElement.calls (a0 : Int) (a1 : Int) (r : Bool) (w : World) (h : impl_HasElement.f a0 a1 = some r) :
    Calls Try.prog 75 #[.int .i64 a0, .int .i64 a1] w fun e w' => e = .returned (.bool r) ∧ Drawn0 w w' := by
  have H : ((impl_isAny.f a0).bind fun t273 => (if t273 = true then (if a1 ≥ 0 then (if a1 < 8 then (if 0 ≤ a1 then (some ((Go.bits .and .i64 (shr .i64 a0 a1) 1) == 1)) else (none)) else (some false)) else (some false)) else (some false))) = some r := h
  clear h
  replace H := Option.bind_eq_some_iff.mp H
  obtain ⟨t273, A30, H⟩ := H
  replace H : (if t273 = true then (if a1 ≥ 0 then (if a1 < 8 then (if 0 ≤ a1 then (some ((Go.bits .and .i64 (shr .i64 a0 a1) 1) == 1)) else (none)) else (some false)) else (some false)) else (some false)) = some r := H
  have A3 := Aside0.mk A30
  clear A30
  by_cases c4 : t273 = true
  · subst c4
    have H1 : (if a1 ≥ 0 then (if a1 < 8 then (if 0 ≤ a1 then (some ((Go.bits .and .i64 (shr .i64 a0 a1) 1) == 1)) else (none)) else (some false)) else (some false)) = some r := by rw [if_pos rfl] at H; exact H
    clear H
    have H := H1
    clear H1
    by_cases c5 : a1 ≥ 0
    · rw [if_pos c5] at H
      have c5b0 : decide (0 ≤ a1) = true := decide_eq_true c5
      clear c5
      by_cases c6 : a1 < 8
      · rw [if_pos c6] at H
        have c6b0 : decide (a1 < 8) = true := decide_eq_true c6
        clear c6
        by_cases c7 : 0 ≤ a1
        · rw [if_pos c7] at H
          have c7b0 := eq_true c7
          have c7b1 : decide (0 ≤ a1) = true := decide_eq_true c7
          clear c7
          obtain ⟨ji8, hji8⟩ : ∃ j_ : Int, (shr .i64 a0 a1) = j_ := ⟨_, rfl⟩
          replace H : (some ((Go.bits .and .i64 (ji8) 1) == 1)) = some r := by first | (rw [hji8] at H; exact H) | (simp only [hji8] at H ⊢; exact H)
          (try rw [hji8] at A3)
          have hji8_ : (a0 / 2 ^ min a1.toNat 64) = ji8 := hji8
          have hji8z : a1 ≤ 64 → (a0 / 2 ^ a1.toNat) = ji8 := shr_small hji8
          obtain rfl := Option.some.inj H
          go_enter Try.func75, Try.ntmps75
          go_wp2_with (first | ((with_reducible refine gate_callee (f := 76) rfl ?_); refine goesL_ (some 6) rfl rfl Try.func76 (by kernel_rfl) rfl #[.int .i64 a0] rfl sqM ?_; (with_reducible refine (impl_isAny.calls a0 true _ A3.out).mono ?_); rintro e w' ⟨rfl, ⟨nd, rfl⟩⟩; refine ⟨_, rfl, ?_⟩))
          go_ret
          exact ⟨by first | rfl | (simp; done) | (simp only [← hji8] <;> (first | rfl | simp)) | (simp [*]; done), by repeat (first | exact Drawn0.refl _ | apply Drawn0.step)⟩
        · rw [if_neg c7] at H
          exact absurd H (by simp)
      · rw [if_neg c6] at H
        have c6b0 : decide (a1 < 8) = false := decide_eq_false c6
        clear c6
        obtain rfl := Option.some.inj H
        go_enter Try.func75, Try.ntmps75
        go_wp2_with (first | ((with_reducible refine gate_callee (f := 76) rfl ?_); refine goesL_ (some 6) rfl rfl Try.func76 (by kernel_rfl) rfl #[.int .i64 a0] rfl sqM ?_; (with_reducible refine (impl_isAny.calls a0 true _ A3.out).mono ?_); rintro e w' ⟨rfl, ⟨nd, rfl⟩⟩; refine ⟨_, rfl, ?_⟩))
        go_ret
        exact ⟨sqD, by repeat (first | exact Drawn0.refl _ | apply Drawn0.step)⟩
    · rw [if_neg c5] at H
      have c5b0 : decide (0 ≤ a1) = false := decide_eq_false c5
      clear c5
      obtain rfl := Option.some.inj H
      go_enter Try.func75, Try.ntmps75
      go_wp2_with (first | ((with_reducible refine gate_callee (f := 76) rfl ?_); refine goesL_ (some 6) rfl rfl Try.func76 (by kernel_rfl) rfl #[.int .i64 a0] rfl sqM ?_; (with_reducible refine (impl_isAny.calls a0 true _ A3.out).mono ?_); rintro e w' ⟨rfl, ⟨nd, rfl⟩⟩; refine ⟨_, rfl, ?_⟩))
      go_ret
      exact ⟨sqD, by repeat (first | exact Drawn0.refl _ | apply Drawn0.step)⟩
  · replace c4 := Bool.eq_false_iff.mpr c4
    subst c4
    have H1 : (some false) = some r := by rw [if_neg (show ¬ (false = true) by decide)] at H; exact H
    clear H
    have H := H1
    clear H1
    obtain rfl := Option.some.inj H
    go_enter Try.func75, Try.ntmps75
    go_wp2_with (first | ((with_reducible refine gate_callee (f := 76) rfl ?_); refine goesL_ (some 6) rfl rfl Try.func76 (by kernel_rfl) rfl #[.int .i64 a0] rfl sqM ?_; (with_reducible refine (impl_isAny.calls a0 false _ A3.out).mono ?_); rintro e w' ⟨rfl, ⟨nd, rfl⟩⟩; refine ⟨_, rfl, ?_⟩))
    go_ret
    exact ⟨sqD, by repeat (first | exact Drawn0.refl _ | apply Drawn0.step)⟩

def impl_ElementsOf.l0 : Nat → Int → List Int → Int → Option (List Int)
  | 0, _, _, _ => none
  | k + 1, x0, x3, x4 => if x4 < 8 then ((impl_HasElement.f x0 x4).bind fun t277 => (if t277 = true then (if x3.length < 17592186044416 then (impl_ElementsOf.l0 k x0 (x3 ++ [x4]) (wrap64 (x4 + 1))) else (none)) else (impl_ElementsOf.l0 k x0 x3 (wrap64 (x4 + 1))))) else (some x3)
def impl_ElementsOf.f (k : Nat) (a0 : Int) : Option (List Int) := impl_ElementsOf.l0 k a0 (([] : List Int)) 0
set_option maxHeartbeats 8000000 in
set_option maxRecDepth 100000 in
theorem impl_ElementsOf.calls (k : Nat) (a0 : Int) (r : List Int) (w : World) (h : impl_ElementsOf.f k a0 = some r) :
    Calls Try.prog 71 #[.int .i64 a0] w fun e w' => ∃ v0_ : Value, e = .returned (v0_) ∧ Kd.R (Kd.int .i64) 3 w' w.heap.size (fun _ => True) v0_ r ∧ Below w.heap.size w w' := by
  have HB := Aside0.mk (Below.refl w.heap.size w)
  have H : (impl_ElementsOf.l0 k a0 (([] : List Int)) 0) = some r := h
  clear h
  obtain ⟨y274, hy274⟩ : ∃ y_ : List Int, y_ = (([] : List Int)) := ⟨_, rfl⟩
  replace H : (impl_ElementsOf.l0 k a0 y274 0) = some r := by first | (rw [hy274]; with_reducible exact H) | (have H2_ := (Option.bind_some _ _).symm.trans H; rw [hy274]; with_reducible exact H2_) | (have H2_ := (Option.bind_some _ _).symm.trans H; with_reducible exact H2_) | with_reducible exact H | (rw [hy274]; exact H) | exact H
  have Ny274 := Aside0.mk hy274
  clear hy274
  have H' := Aside0.mk H
  clear H
  go_enter Try.func71, Try.ntmps71
  go_wp2_with (first | ((with_reducible refine gate_dst (N := 5) rfl ?_); refine Kd.R_lit (Kd.int .i64) _ 3 ?hg (N := 5) ?hd (xs := ([] : List Int)) (inner := []) (ok := fun _ => True) (okp := fun _ => True) ?hr ?hp (fun _ hk => hk) trivial (Below.refl _ _) (Nat.le_refl _) (by simp) ?_; (case hd => rfl); (case hg => rfl); (case hr => exact sqG); (case hp => exact (Reps.none _ _)); intro v275 w2 ho3 hb hg_ hnew_; clear hg_ hnew_; (first | rw [← Ny274.out] at ho3 | (simp only [Int.reduceToNat] at ho3; rw [← Ny274.out] at ho3)); have n0_ := Aside0.mk (Kd.R_lower ho3 (below_size sqB)); have n1_ := Aside0.mk (below_step sqB hb); clear HB; have HO276 := n0_; have HB := n1_; clear n0_ n1_; clear hb ho3))
  go_loopg [3, 4] k (fun kq v3 v4 w' => ∃ (x3_1 : List Int) (x4_1 : Int), v4 = .int .i64 x4_1 ∧ Aside0 (impl_ElementsOf.l0 kq a0 x3_1 x4_1 = some r) ∧ Aside0 (kq ≤ k) ∧ Aside0 (Kd.R (Kd.int .i64) 3 w' w.heap.size (fun _ => True) v3 x3_1) ∧ Aside0 (Below w.heap.size w w'))
  case atStart => exact ⟨(y274), (0), (sqD), H', ⟨Nat.le_refl _⟩, ⟨sqR HO276.out⟩, ⟨sqB⟩⟩
  case round =>
    clear H'
    try clear p2
    obtain ⟨x3_1, x4_1, rfl, HA, HK1, HO_3, HB⟩ := hrel
    cases gk with
    | zero => exact absurd HA.out (by simp [impl_ElementsOf.l0])
    | succ k1 =>
      have H := HA.out
      clear HA
      simp only [impl_ElementsOf.l0] at H
      by_cases c4 : x4_1 < 8
      · rw [if_pos c4] at H
        have c4b0 : decide (x4_1 < 8) = true := decide_eq_true c4
        clear c4
        replace H := Option.bind_eq_some_iff.mp H
        obtain ⟨t277, A50, H⟩ := H
        replace H : (if t277 = true then (if x3_1.length < 17592186044416 then (impl_ElementsOf.l0 k1 a0 (x3_1 ++ [x4_1]) (wrap64 (x4_1 + 1))) else (none)) else (impl_ElementsOf.l0 k1 a0 x3_1 (wrap64 (x4_1 + 1)))) = some r := H
        have A5 := Aside0.mk A50
        clear A50
        by_cases c6 : t277 = true
        · subst c6
          have H1 : (if x3_1.length < 17592186044416 then (impl_ElementsOf.l0 k1 a0 (x3_1 ++ [x4_1]) (wrap64 (x4_1 + 1))) else (none)) = some r := by rw [if_pos rfl] at H; exact H
          clear H
          have H := H1
          clear H1
          by_cases c7 : x3_1.length < 17592186044416
          · rw [if_pos c7] at H
            have LMc7 := Aside0.mk c7
            clear c7
            obtain ⟨y278, hy278⟩ : ∃ y_ : List Int, y_ = (x3_1 ++ [x4_1]) := ⟨_, rfl⟩
            replace H : (impl_ElementsOf.l0 k1 a0 y278 (wrap64 (x4_1 + 1))) = some r := by first | (rw [hy278]; with_reducible exact H) | (have H2_ := (Option.bind_some _ _).symm.trans H; rw [hy278]; with_reducible exact H2_) | (have H2_ := (Option.bind_some _ _).symm.trans H; with_reducible exact H2_) | with_reducible exact H | (rw [hy278]; exact H) | exact H
            have Ny278 := Aside0.mk hy278
            clear hy278
            have H' := Aside0.mk H
            clear H
            go_wp2_with (first | ((with_reducible refine gate_callee (f := 75) rfl ?_); refine goesL_ (some 12) rfl rfl Try.func75 (by kernel_rfl) rfl #[.int .i64 a0, .int .i64 x4_1] rfl sqM ?_; (with_reducible refine (impl_HasElement.calls a0 x4_1 true _ A5.out).mono ?_); rintro e w' ⟨rfl, ⟨nd, rfl⟩⟩; refine ⟨_, rfl, ?_⟩) | ((with_reducible refine gate_builtin (b := .append) (xs := #[.tmp 13, .tmp 15]) rfl ?_); at_builtin; refine Kd.R_append (Kd.int .i64) (w0 := w) w.heap.size rfl (.tmp 13) (.tmp 15) 22 3 (.int .i64 0) 8 rfl Try.underlying22 info3 rfl (by decide) (by omega) u3 x3_1 x4_1 [.int .i64 x4_1] (fun _ => True) (fun _ => False) rfl rfl ?aP (fun _ hk => hk.elim) ?aF ?aO ?aB ?aS ?aL ?_; (case aP => exact rfl); (case aB => exact sqB); (case aF => exact (fun _ _ => trivial)); (case aO => exact (sqR HO_3.out)); (case aS => exact (below_size sqB)); (case aL => have := LMc7.out; omega); intro v279 w8 ho hb hg hat; rw [← Ny278.out] at ho; have n0_ := Aside0.mk (hb); have n1_ := Aside0.mk (ho); clear HB; clear HO_3; have HB := n0_; have HO280 := n1_; clear n0_ n1_; clear ho hb hg hat))
            go_roundg k1
            case measure => have := HK1.out; omega
            case rel => exact ⟨(y278), (wrap64 (x4_1 + 1)), (sqD), H', ⟨by have := HK1.out; omega⟩, ⟨sqR HO280.out⟩, ⟨sqB⟩⟩
          · rw [if_neg c7] at H
            exact absurd H (by simp)
        · replace c6 := Bool.eq_false_iff.mpr c6
          subst c6
          have H1 : (impl_ElementsOf.l0 k1 a0 x3_1 (wrap64 (x4_1 + 1))) = some r := by rw [if_neg (show ¬ (false = true) by decide)] at H; exact H
          clear H
          have H := H1
          clear H1
          have H' := Aside0.mk H
          clear H
          go_wp2_with (first | ((with_reducible refine gate_callee (f := 75) rfl ?_); refine goesL_ (some 12) rfl rfl Try.func75 (by kernel_rfl) rfl #[.int .i64 a0, .int .i64 x4_1] rfl sqM ?_; (with_reducible refine (impl_HasElement.calls a0 x4_1 false _ A5.out).mono ?_); rintro e w' ⟨rfl, ⟨nd, rfl⟩⟩; refine ⟨_, rfl, ?_⟩))
          go_roundg k1
          case measure => have := HK1.out; omega
          case rel => exact ⟨(x3_1), (wrap64 (x4_1 + 1)), (sqD), H', ⟨by have := HK1.out; omega⟩, ⟨sqR HO_3.out⟩, ⟨sqB⟩⟩
      · rw [if_neg c4] at H
        have c4b0 : decide (x4_1 < 8) = false := decide_eq_false c4
        clear c4
        obtain rfl := Option.some.inj H
        go_wp2
        go_ret
        exact ⟨_, sqE, sqR HO_3.out, sqB⟩

mutual
def impl_columnsOf.l0 : Nat → List Int → Int → Int → Int → Int → List Int → Int → Int → Int → List Int → Option (Int × Int × Int × List Int)
  | 0, _, _, _, _, _, _, _, _, _, _ => none
  | k + 1, x5, x7, x282000, x282001, x282002, x282003, x287000, x287001, x287002, x287003 => if x7 < x282001 then (impl_columnsOf.l1 k x5 x7 x5 (x5.length : Int) 0 x282000 x282001 x282002 x282003 x287000 x287001 x287002 x287003) else (some (x287000, x287001, x287002, x287003))
def impl_columnsOf.l1 : Nat → List Int → Int → List Int → Int → Int → Int → Int → Int → List Int → Int → Int → Int → List Int → Option (Int × Int × Int × List Int)
  | 0, _, _, _, _, _, _, _, _, _, _, _, _, _ => none
  | k + 1, x5, x7, x25, x26, x27, x282000, x282001, x282002, x282003, x287000, x287001, x287002, x287003 => if x27 < x26 then (if 0 ≤ x27 then (if x27 < (x25.length : Int) then ((impl_Matrix_at.f x282000 x282001 x282002 x282003 x7 (rd x25 x27)).bind fun t288 => (if x287003.length < 17592186044416 then (impl_columnsOf.l1 k x5 x7 x25 x26 (wrap64 (x27 + 1)) x282000 x282001 x282002 x282003 x287000 x287001 x287002 (x287003 ++ [t288])) else (none))) else (none)) else (none)) else (impl_columnsOf.l0 k x5 (wrap64 (x7 + 1)) x282000 x282001 x282002 x282003 x287000 x287001 x287002 x287003)
end
def impl_columnsOf.f (k : Nat) (a0_0 : Int) (a0_1 : Int) (a0_2 : Int) (l0_3 : List Int) (a1 : Int) : Option (Int × Int × Int × List Int) := (impl_ElementsOf.f k a1).bind fun t283 => (impl_columnsOf.l0 k t283 0 a0_0 a0_1 a0_2 l0_3 a0_0 a0_1 (t283.length : Int) ([] : List Int))
def impl_columnsOf.T9 : Bool × List (List Nat × List Nat) := (true, [([], []), ([0], [0]), ([], []), ([], []), ([], []), ([2, 3, 4], [2, 3, 4]), ([5], [5]), ([1, 6, 5], [1, 6]), ([0, 1, 2, 3, 4, 5, 6, 7], []), ([8, 7, 7, 0, 1, 2, 3, 4, 5, 6, 7], [7, 8])])
def impl_columnsOf.B9 : List Nat := [0, 1, 0, 0, 0, 28, 60, 127, 255, 511]
theorem impl_columnsOf.tab9 : rtab .any (opsOf Try.f59 9) = impl_columnsOf.T9 := by kernel_rfl
theorem impl_columnsOf.bits9 : waitsOk impl_columnsOf.T9.2 impl_columnsOf.B9 = true := by kernel_rfl
set_option maxHeartbeats 8000000 in
set_option maxRecDepth 100000 in
theorem impl_columnsOf.calls (k : Nat) (a0_0 : Int) (a0_1 : Int) (a0_2 : Int) (A0_3 : Option Addr) (c0_3 : Nat) (l0_3 : List Int) (a1 : Int) (r1 : Int) (r2 : Int) (r3 : Int) (r4 : List Int) (w : World) (hr0_3 : Kd.C (Kd.int .i64) w A0_3 l0_3.length l0_3) (hc0_3 : l0_3.length ≤ c0_3) (h : impl_columnsOf.f k a0_0 a0_1 a0_2 l0_3 a1 = some (r1, r2, r3, r4)) :
    Calls Try.prog 59 #[.agg #[.int .i64 a0_0, .int .i64 a0_1, .int .i64 a0_2, .slice A0_3 l0_3.length c0_3], .int .i64 a1] w fun e w' => ∃ v3_ : Value, e = .returned (.agg #[.int .i64 r1, .int .i64 r2, .int .i64 r3, v3_]) ∧ Kd.R (Kd.int .i64) 3 w' w.heap.size (fun _ => True) v3_ r4 ∧ Below w.heap.size w w' := by
  have hu27 := Try.underlying27
  have HR0_3 := Aside0.mk hr0_3
  have HC0_3 := Aside0.mk hc0_3
  clear hr0_3 hc0_3
  have HB := Aside0.mk (Below.refl w.heap.size w)
  have H : ((impl_ElementsOf.f k a1).bind fun t283 => (impl_columnsOf.l0 k t283 0 a0_0 a0_1 a0_2 l0_3 a0_0 a0_1 (t283.length : Int) ([] : List Int))) = some (r1, r2, r3, r4) := h
  clear h
  replace H := Option.bind_eq_some_iff.mp H
  obtain ⟨t283, A30, H⟩ := H
  replace H : (impl_columnsOf.l0 k t283 0 a0_0 a0_1 a0_2 l0_3 a0_0 a0_1 (t283.length : Int) ([] : List Int)) = some (r1, r2, r3, r4) := H
  have A3 := Aside0.mk A30
  clear A30
  have H' := Aside0.mk H
  clear H
  go_enter Try.func59, Try.ntmps59
  go_wp2_with (first | ((with_reducible refine gate_dst (N := 2) rfl ?_); refine box_event ?hg (N := 2) ?hd (cs := #[.int .i64 a0_0, .int .i64 a0_1, .int .i64 a0_2, .slice A0_3 l0_3.length c0_3]) (t := 27) ?hr ?_; (case hd => rfl); (case hg => rfl); (case hr => exact sqG); intro gb281 hg w4 hbox hb; have n0_ := Aside0.mk (below_step sqB hb); have n1_ := Aside0.mk (hbox); have n2_ := Aside0.mk ((sqS hg : w.heap.size ≤ gb281)); have n3_ := Aside0.mk ((sqS hg : w.heap.size ≤ gb281)); clear HB; have HB := n0_; have BK281 := n1_; have GW281 := n2_; have GE281 := n3_; clear n0_ n1_ n2_ n3_; clear hb hbox hg) | ((with_reducible refine gate_dst (N := 4) rfl ?_); refine box_event ?hg (N := 4) ?hd (cs := #[.int .i64 0, .int .i64 0, .int .i64 0, .slice none 0 0]) (t := 27) ?hr ?_; (case hd => rfl); (case hg => rfl); (case hr => exact sqG); intro gb282 hg w5 hbox hb; have n0_ := Aside0.mk (blk_below (g := gb281) (o := .cells #[.int .i64 a0_0, .int .i64 a0_1, .int .i64 a0_2, .slice A0_3 l0_3.length c0_3] 27 (0, 0)) (sqK BK281.out) hb); have n1_ := Aside0.mk (below_step sqB hb); have n2_ := Aside0.mk (hbox); have n3_ := Aside0.mk ((sqS hg : w.heap.size ≤ gb282)); have n4_ := Aside0.mk ((sqS hg : w.heap.size ≤ gb282)); have n5_ := Aside0.mk ((by rw [hg]; exact Nat.ne_of_lt (blk_lt (g := gb281) (o := .cells #[.int .i64 a0_0, .int .i64 a0_1, .int .i64 a0_2, .slice A0_3 l0_3.length c0_3] 27 (0, 0)) (sqK BK281.out)) : gb281 ≠ gb282)); have n6_ := Aside0.mk ((by rw [hg]; exact Nat.ne_of_gt (blk_lt (g := gb281) (o := .cells #[.int .i64 a0_0, .int .i64 a0_1, .int .i64 a0_2, .slice A0_3 l0_3.length c0_3] 27 (0, 0)) (sqK BK281.out)) : gb282 ≠ gb281)); clear BK281; clear HB; have BK281 := n0_; have HB := n1_; have BK282 := n2_; have GW282 := n3_; have GE282 := n4_; have NB281_282 := n5_; have NB282_281 := n6_; clear n0_ n1_ n2_ n3_ n4_ n5_ n6_; clear hb hbox hg) | ((with_reducible refine gate_callee (f := 71) rfl ?_); refine goesL_ (some 11) rfl rfl Try.func71 (by kernel_rfl) rfl #[.int .i64 a1] rfl sqM ?_; (with_reducible refine (impl_ElementsOf.calls k a1 t283 _ A3.out).mono ?_); rintro e w6 ⟨v284, rfl, ho0, hb⟩; refine ⟨_, rfl, ?_⟩; have n0_ := Aside0.mk (Kd.R_lower ho0 (below_size sqB)); have n1_ := Aside0.mk (blk_below (g := gb281) (o := .cells #[.int .i64 a0_0, .int .i64 a0_1, .int .i64 a0_2, .slice A0_3 l0_3.length c0_3] 27 (0, 0)) (sqK BK281.out) hb); have n2_ := Aside0.mk (blk_below (g := gb282) (o := .cells #[.int .i64 0, .int .i64 0, .int .i64 0, .slice none 0 0] 27 (0, 0)) (sqK BK282.out) hb); have n3_ := Aside0.mk (below_step sqB hb); clear BK281; clear BK282; clear HB; have HO285 := n0_; have BK281 := n1_; have BK282 := n2_; have HB := n3_; clear n0_ n1_ n2_ n3_; (try clear hb); (try clear hb2); (try clear hk); (try clear hi); (try clear ho0); have hnb7 := NB281_282.out; have hnc7 := NB282_281.out; have hcz8_0 : w6.cell? ⟨gb281, 0, none⟩ = some (.int .i64 a0_0) := (blk_cell BK281.out 0).trans rfl; have hcz8_1 : w6.cell? ⟨gb281, 1, none⟩ = some (.int .i64 a0_1) := (blk_cell BK281.out 1).trans rfl; have hcz8_2 : w6.cell? ⟨gb281, 2, none⟩ = some (.int .i64 a0_2) := (blk_cell BK281.out 2).trans rfl; have hcz8_3 : w6.cell? ⟨gb281, 3, none⟩ = some (.slice A0_3 l0_3.length c0_3) := (blk_cell BK281.out 3).trans rfl; have hfz8_0 := blk_frozen BK281.out 0; have hfz8_1 := blk_frozen BK281.out 1; have hfz8_2 := blk_frozen BK281.out 2; have hfz8_3 := blk_frozen BK281.out 3; obtain ⟨Ao9, co9, eo9⟩ := Kd.R_slice HO285.out; subst eo9) | ((with_reducible refine gate_dst (N := 6) rfl ?_); refine box_event ?hg (N := 6) ?hd (cs := #[.int .i64 0, .int .i64 0, .int .i64 0, .slice none 0 0]) (t := 27) ?hr ?_; (case hd => rfl); (case hg => rfl); (case hr => exact sqG); intro gb286 hg w10 hbox hb; have n0_ := Aside0.mk (Kd.R_below (sqR HO285.out) hb); have n1_ := Aside0.mk (blk_below (g := gb281) (o := .cells #[.int .i64 a0_0, .int .i64 a0_1, .int .i64 a0_2, .slice A0_3 l0_3.length c0_3] 27 (0, 0)) (sqK BK281.out) hb); have n2_ := Aside0.mk (blk_below (g := gb282) (o := .cells #[.int .i64 0, .int .i64 0, .int .i64 0, .slice none 0 0] 27 (0, 0)) (sqK BK282.out) hb); have n3_ := Aside0.mk (below_step sqB hb); have n4_ := Aside0.mk (hbox); have n5_ := Aside0.mk ((sqS hg : w.heap.size ≤ gb286)); have n6_ := Aside0.mk ((sqS hg : w.heap.size ≤ gb286)); have n7_ := Aside0.mk ((by rw [hg]; exact Nat.ne_of_lt (blk_lt (g := gb281) (o := .cells #[.int .i64 a0_0, .int .i64 a0_1, .int .i64 a0_2, .slice A0_3 l0_3.length c0_3] 27 (0, 0)) (sqK BK281.out)) : gb281 ≠ gb286)); have n8_ := Aside0.mk ((by rw [hg]; exact Nat.ne_of_gt (blk_lt (g := gb281) (o := .cells #[.int .i64 a0_0, .int .i64 a0_1, .int .i64 a0_2, .slice A0_3 l0_3.length c0_3] 27 (0, 0)) (sqK BK281.out)) : gb286 ≠ gb281)); have n9_ := Aside0.mk ((by rw [hg]; exact Nat.ne_of_lt (blk_lt (g := gb282) (o := .cells #[.int .i64 0, .int .i64 0, .int .i64 0, .slice none 0 0] 27 (0, 0)) (sqK BK282.out)) : gb282 ≠ gb286)); have n10_ := Aside0.mk ((by rw [hg]; exact Nat.ne_of_gt (blk_lt (g := gb282) (o := .cells #[.int .i64 0, .int .i64 0, .int .i64 0, .slice none 0 0] 27 (0, 0)) (sqK BK282.out)) : gb286 ≠ gb282)); clear HO285; clear BK281; clear BK282; clear HB; have HO285 := n0_; have BK281 := n1_; have BK282 := n2_; have HB := n3_; have BK286 := n4_; have GW286 := n5_; have GE286 := n6_; have NB281_286 := n7_; have NB286_281 := n8_; have NB282_286 := n9_; have NB286_282 := n10_; clear n0_ n1_ n2_ n3_ n4_ n5_ n6_ n7_ n8_ n9_ n10_; clear hb hbox hg; have hnb11 := NB286_281.out; have hnc11 := NB281_286.out; have hnb12 := NB286_282.out; have hnc12 := NB282_286.out; have hcz13_0 : w10.cell? ⟨gb286, 0, none⟩ = some (.int .i64 0) := (blk_cell BK286.out 0).trans rfl; have hcz13_1 : w10.cell? ⟨gb286, 1, none⟩ = some (.int .i64 0) := (blk_cell BK286.out 1).trans rfl; have hcz13_2 : w10.cell? ⟨gb286, 2, none⟩ = some (.int .i64 0) := (blk_cell BK286.out 2).trans rfl; have hcz13_3 : w10.cell? ⟨gb286, 3, none⟩ = some (.slice none 0 0) := (blk_cell BK286.out 3).trans rfl; have hfz13_0 := blk_frozen BK286.out 0; have hfz13_1 := blk_frozen BK286.out 1; have hfz13_2 := blk_frozen BK286.out 2; have hfz13_3 := blk_frozen BK286.out 3))
  go_loopg [7] k (fun kq v7 w' => ∃ (x7_1 : Int) (x287003_1 : List Int) (u287003 : Value), v7 = .int .i64 x7_1 ∧ Aside0 (impl_columnsOf.l0 kq t283 x7_1 a0_0 a0_1 a0_2 l0_3 a0_0 a0_1 (t283.length : Int) x287003_1 = some (r1, r2, r3, r4)) ∧ Aside0 (kq ≤ k) ∧ Aside0 (Kd.R (Kd.int .i64) 3 w' w.heap.size (fun k_ => some k_ ≠ (u287003 : Value).ownBlock) (.slice Ao9 t283.length co9) t283) ∧ Aside0 (Kd.R (Kd.int .i64) 3 w' w.heap.size (fun k_ => some k_ ≠ ((.slice Ao9 t283.length co9) : Value).ownBlock) u287003 x287003_1) ∧ Aside0 (w'.heap[gb281]? = some (.cells #[.int .i64 a0_0, .int .i64 a0_1, .int .i64 a0_2, (.slice A0_3 l0_3.length c0_3)] 27 (0, 0))) ∧ Aside0 (w'.heap[gb282]? = some (.cells #[.int .i64 0, .int .i64 0, .int .i64 0, (.slice none 0 0)] 27 (0, 0))) ∧ Aside0 (w'.heap[gb286]? = some (.cells #[.int .i64 a0_0, .int .i64 a0_1, .int .i64 (t283.length : Int), u287003] 27 (0, 0))) ∧ Aside0 (Below w.heap.size w w'))
  case atStart => exact ⟨(0), (([] : List Int)), (.slice none 0 0), (sqD), H', ⟨Nat.le_refl _⟩, ⟨by refine sqR ?_; exact Kd.R_mono (Kd.R_far (p := ⟨gb286, 3, none⟩) (Kd.R_far (p := ⟨gb286, 2, none⟩) (Kd.R_far (p := ⟨gb286, 1, none⟩) (Kd.R_far (p := ⟨gb286, 0, none⟩) (Kd.R_types HO285.out BK286.out (by decide)) (fun _ hk => hk.2) (.int .i64 a0_0)) (fun _ hk => hk.2) (.int .i64 a0_1)) (fun _ hk => hk.2) (.int .i64 (t283.length : Int))) (fun _ hk => hk.2) (.slice none 0 0)) (fun _ hk => (by simp [Value.ownBlock]))⟩, ⟨sqN⟩, ⟨by refine sqK ?_; refine blk_far ?_ NB281_286.out _; refine sqK ?_; refine blk_far ?_ NB281_286.out _; refine sqK ?_; refine blk_far ?_ NB281_286.out _; refine sqK ?_; refine blk_far ?_ NB281_286.out _; refine sqK ?_; exact BK281.out⟩, ⟨by refine sqK ?_; refine blk_far ?_ NB282_286.out _; refine sqK ?_; refine blk_far ?_ NB282_286.out _; refine sqK ?_; refine blk_far ?_ NB282_286.out _; refine sqK ?_; refine blk_far ?_ NB282_286.out _; refine sqK ?_; exact BK282.out⟩, ⟨by refine sqK ?_; refine blk_put (cs := #[.int .i64 a0_0, .int .i64 a0_1, .int .i64 (t283.length : Int), .slice none 0 0]) ?_ 3 _ rfl; refine sqK ?_; refine blk_put (cs := #[.int .i64 a0_0, .int .i64 a0_1, .int .i64 0, .slice none 0 0]) ?_ 2 _ rfl; refine sqK ?_; refine blk_put (cs := #[.int .i64 a0_0, .int .i64 0, .int .i64 0, .slice none 0 0]) ?_ 1 _ rfl; refine sqK ?_; refine blk_put (cs := #[.int .i64 0, .int .i64 0, .int .i64 0, .slice none 0 0]) ?_ 0 _ rfl; refine sqK ?_; exact BK286.out⟩, ⟨sqB⟩⟩
  case round =>
    clear H'
    try clear c1
    try clear p2
    try clear c5
    try clear c7
    try clear c11
    try clear c12
    try clear hcz13_0
    try clear hcz13_1
    try clear hcz13_2
    try clear hcz13_3
    try clear hcz8_0
    try clear hcz8_1
    try clear hcz8_2
    try clear hcz8_3
    try clear hfz13_0
    try clear hfz13_1
    try clear hfz13_2
    try clear hfz13_3
    try clear hfz8_0
    try clear hfz8_1
    try clear hfz8_2
    try clear hfz8_3
    obtain ⟨x7_1, x287003_1, u287003, rfl, HA, HK1, HO_5, HO_287003, BK281, BK282, BK286, HB⟩ := hrel
    cases gk with
    | zero => exact absurd HA.out (by simp [impl_columnsOf.l0])
    | succ k1 =>
      have H := HA.out
      clear HA
      simp only [impl_columnsOf.l0] at H
      by_cases c14 : x7_1 < a0_1
      · rw [if_pos c14] at H
        have c14b0 : decide (x7_1 < a0_1) = true := decide_eq_true c14
        clear c14
        have H' := Aside0.mk H
        clear H
        have hnb15 := NB281_282.out
        have hnc15 := NB282_281.out
        have hnb16 := NB281_286.out
        have hnc16 := NB286_281.out
        have hcz17_0 : wr.cell? ⟨gb281, 0, none⟩ = some (.int .i64 a0_0) := (blk_cell BK281.out 0).trans rfl
        have hcz17_1 : wr.cell? ⟨gb281, 1, none⟩ = some (.int .i64 a0_1) := (blk_cell BK281.out 1).trans rfl
        have hcz17_2 : wr.cell? ⟨gb281, 2, none⟩ = some (.int .i64 a0_2) := (blk_cell BK281.out 2).trans rfl
        have hcz17_3 : wr.cell? ⟨gb281, 3, none⟩ = some (.slice A0_3 l0_3.length c0_3) := (blk_cell BK281.out 3).trans rfl
        have hfz17_0 := blk_frozen BK281.out 0; have hfz17_1 := blk_frozen BK281.out 1; have hfz17_2 := blk_frozen BK281.out 2; have hfz17_3 := blk_frozen BK281.out 3
        go_wp2
        go_loopg [27] k1 (fun kq v27 w' => ∃ (x27_2 : Int) (x287003_2 : List Int) (u287003 : Value), v27 = .int .i64 x27_2 ∧ Aside0 (impl_columnsOf.l1 kq t283 x7_1 t283 (t283.length : Int) x27_2 a0_0 a0_1 a0_2 l0_3 a0_0 a0_1 (t283.length : Int) x287003_2 = some (r1, r2, r3, r4)) ∧ Aside0 (kq ≤ k1) ∧ Aside0 (Kd.R (Kd.int .i64) 3 w' w.heap.size (fun k_ => some k_ ≠ (u287003 : Value).ownBlock) (.slice Ao9 t283.length co9) t283) ∧ Aside0 (Kd.R (Kd.int .i64) 3 w' w.heap.size (fun k_ => some k_ ≠ (u287003 : Value).ownBlock) (.slice Ao9 t283.length co9) t283) ∧ Aside0 (Kd.R (Kd.int .i64) 3 w' w.heap.size (fun k_ => some k_ ≠ ((.slice Ao9 t283.length co9) : Value).ownBlock ∧ some k_ ≠ ((.slice Ao9 t283.length co9) : Value).ownBlock) u287003 x287003_2) ∧ Aside0 (w'.heap[gb281]? = some (.cells #[.int .i64 a0_0, .int .i64 a0_1, .int .i64 a0_2, (.slice A0_3 l0_3.length c0_3)] 27 (0, 0))) ∧ Aside0 (w'.heap[gb282]? = some (.cells #[.int .i64 0, .int .i64 0, .int .i64 0, (.slice none 0 0)] 27 (0, 0))) ∧ Aside0 (w'.heap[gb286]? = some (.cells #[.int .i64 a0_0, .int .i64 a0_1, .int .i64 (t283.length : Int), u287003] 27 (0, 0))) ∧ Aside0 (Below w.heap.size w w'))
        case atStart => exact ⟨(0), (x287003_1), (u287003), (sqD), H', ⟨Nat.le_refl _⟩, ⟨sqR HO_5.out⟩, ⟨sqR HO_5.out⟩, ⟨by refine sqR ?_; exact Kd.R_mono HO_287003.out (fun _ hk => by first | exact ⟨hk, hk⟩ | (refine ⟨?_, ?_⟩ <;> intro e_ <;> simp only [e_, ne_eq, not_true_eq_false, and_false, false_and] at hk))⟩, ⟨sqK BK281.out⟩, ⟨sqK BK282.out⟩, ⟨sqK BK286.out⟩, ⟨sqB⟩⟩
        case round =>
          clear H'
          try clear c1
          try clear p2
          try clear c5
          try clear c7
          try clear c11
          try clear c12
          try clear c14
          try clear c14b0
          try clear c15
          try clear c16
          try clear hcz13_0
          try clear hcz13_1
          try clear hcz13_2
          try clear hcz13_3
          try clear hcz17_0
          try clear hcz17_1
          try clear hcz17_2
          try clear hcz17_3
          try clear hcz8_0
          try clear hcz8_1
          try clear hcz8_2
          try clear hcz8_3
          try clear hfz13_0
          try clear hfz13_1
          try clear hfz13_2
          try clear hfz13_3
          try clear hfz17_0
          try clear hfz17_1
          try clear hfz17_2
          try clear hfz17_3
          try clear hfz8_0
          try clear hfz8_1
          try clear hfz8_2
          try clear hfz8_3
          try clear p2
          obtain ⟨x27_2, x287003_2, u287003, rfl, HA, HK2, HO_5, HO_25, HO_287003, BK281, BK282, BK286, HB⟩ := hrel
          cases gk with
          | zero => exact absurd HA.out (by simp [impl_columnsOf.l1])
          | succ k2 =>
            have H := HA.out
            clear HA
            simp only [impl_columnsOf.l1] at H
            by_cases c18 : x27_2 < (t283.length : Int)
            · rw [if_pos c18] at H
              have c18b0 : decide (x27_2 < (t283.length : Int)) = true := decide_eq_true c18
              clear c18
              by_cases c19 : 0 ≤ x27_2
              · rw [if_pos c19] at H
                have c19b0 : decide (0 ≤ x27_2) = true := decide_eq_true c19
                clear c19
                by_cases c20 : x27_2 < (t283.length : Int)
                · rw [if_pos c20] at H
                  have c20b0 : decide (x27_2 < (t283.length : Int)) = true := decide_eq_true c20
                  clear c20
                  replace H := Option.bind_eq_some_iff.mp H
                  obtain ⟨t288, A210, H⟩ := H
                  replace H : (if x287003_2.length < 17592186044416 then (impl_columnsOf.l1 k2 t283 x7_1 t283 (t283.length : Int) (wrap64 (x27_2 + 1)) a0_0 a0_1 a0_2 l0_3 a0_0 a0_1 (t283.length : Int) (x287003_2 ++ [t288])) else (none)) = some (r1, r2, r3, r4) := H
                  have A21 := Aside0.mk A210
                  clear A210
                  by_cases c22 : x287003_2.length < 17592186044416
                  · rw [if_pos c22] at H
                    have LMc22 := Aside0.mk c22
                    clear c22
                    obtain ⟨y289, hy289⟩ : ∃ y_ : List Int, y_ = (x287003_2 ++ [t288]) := ⟨_, rfl⟩
                    replace H : (impl_columnsOf.l1 k2 t283 x7_1 t283 (t283.length : Int) (wrap64 (x27_2 + 1)) a0_0 a0_1 a0_2 l0_3 a0_0 a0_1 (t283.length : Int) y289) = some (r1, r2, r3, r4) := by first | (rw [hy289]; with_reducible exact H) | (have H2_ := (Option.bind_some _ _).symm.trans H; rw [hy289]; with_reducible exact H2_) | (have H2_ := (Option.bind_some _ _).symm.trans H; with_reducible exact H2_) | with_reducible exact H | (rw [hy289]; exact H) | exact H
                    have Ny289 := Aside0.mk hy289
                    clear hy289
                    have H' := Aside0.mk H
                    clear H
                    have p287 : 0 ≤ (x27_2 : Int) := of_decide_eq_true sqA
                    have q287 : x27_2 < (t283.length : Int) := of_decide_eq_true sqA
                    obtain ⟨ad287, e287, hx287_0⟩ := Kd.at_int (Kd.R_reads' HO_25.out).2.2 x27_2 p287 q287
                    cases e287
                    replace p287 := eq_true p287
                    replace q287 := eq_true q287
                    try go_wp2
                    have n0_ := Aside0.mk (Kd.R_drew HO_5.out)
                    have n1_ := Aside0.mk (Kd.R_drew HO_25.out)
                    have n2_ := Aside0.mk (Kd.R_drew HO_287003.out)
                    have n3_ := Aside0.mk (blk_drew BK281.out)
                    have n4_ := Aside0.mk (blk_drew BK282.out)
                    have n5_ := Aside0.mk (blk_drew BK286.out)
                    have n6_ := Aside0.mk (below_drew1 HB.out)
                    clear HO_5 HO_25 HO_287003 BK281 BK282 BK286 HB; have HO_5 := n0_; have HO_25 := n1_; have HO_287003 := n2_; have BK281 := n3_; have BK282 := n4_; have BK286 := n5_; have HB := n6_; clear n0_ n1_ n2_ n3_ n4_ n5_ n6_
                    refine start_ (n := 10) (S := fun w' => w'.cell? ⟨gb286, 0, none⟩ = some (.int .i64 a0_0) ∧ w'.cell? ⟨gb286, 1, none⟩ = some (.int .i64 a0_1) ∧ w'.cell? ⟨gb286, 2, none⟩ = some (.int .i64 (t283.length : Int)) ∧ w'.cell? ⟨gb286, 3, none⟩ = some (u287003) ∧ w'.cell? ⟨gb281, 0, none⟩ = some (.int .i64 a0_0) ∧ w'.cell? ⟨gb281, 1, none⟩ = some (.int .i64 a0_1) ∧ w'.cell? ⟨gb281, 2, none⟩ = some (.int .i64 a0_2) ∧ w'.cell? ⟨gb281, 3, none⟩ = some (.slice A0_3 l0_3.length c0_3)) (ds := [9]) #[false, false, false, false, false, false, false, false, false, false] (by kernel_rfl) rfl rfl ⟨(blk_cell BK286.out 0).trans rfl, (blk_cell BK286.out 1).trans rfl, (blk_cell BK286.out 2).trans rfl, (blk_cell BK286.out 3).trans rfl, (blk_cell BK281.out 0).trans rfl, (blk_cell BK281.out 1).trans rfl, (blk_cell BK281.out 2).trans rfl, (blk_cell BK281.out 3).trans rfl⟩ (fun hHeld => ?_); refine with_tabW impl_columnsOf.tab9 impl_columnsOf.bits9 (fun HT_ HW_ => ?_)
                    generalize wr.drew = w23 at HO_5 HO_25 HO_287003 BK281 BK282 BK286 HB hHeld ⊢
                    refine pure_ (i := 0) (N := some 31) (v := ?_) (a' := ?_) #[true, false, false, false, false, false, false, false, false, false] rfl rfl (any_of HT_.out (by kernel_rfl)) (fun _ _ _ h => h) (Or.inl ⟨by rfl, ?_⟩) ?_ ?_
                    rotate_left
                    · intro w'; go_simp; with_reducible rfl
                    rotate_left
                    · simp only [Act.put, List.setIfInBounds_toArray, List.set_cons_zero, List.set_cons_succ, i64_w, i32_w]; rfl
                    refine pure_ (i := 3) (N := some 34) (v := ?_) (a' := ?_) #[true, false, false, true, false, false, false, false, false, false] rfl rfl (any_of HT_.out (by kernel_rfl)) (fun _ _ _ h => h) (Or.inl ⟨by rfl, ?_⟩) ?_ ?_
                    rotate_left
                    · intro w'; go_simp; with_reducible rfl
                    rotate_left
                    · simp only [Act.put, List.setIfInBounds_toArray, List.set_cons_zero, List.set_cons_succ, i64_w, i32_w]; rfl
                    refine pure_ (i := 4) (N := some 35) (v := ?_) (a' := ?_) #[true, false, false, true, true, false, false, false, false, false] rfl rfl (any_of HT_.out (by kernel_rfl)) (fun _ _ _ h => h) (Or.inl ⟨by rfl, ?_⟩) ?_ ?_
                    rotate_left
                    · intro w'; go_simp; with_reducible rfl
                    rotate_left
                    · simp only [Act.put, List.setIfInBounds_toArray, List.set_cons_zero, List.set_cons_succ, i64_w, i32_w]; rfl
                    refine take_ (i := 1) (N := some 32) (v := ?_) (a' := ?_) #[true, true, false, true, true, false, false, false, false, false] rfl rfl (take_ofW HT_.out HW_.out (by kernel_rfl)) (fun _ _ _ h => h) (Or.inl ⟨by rfl, ?_⟩) hHeld ?_ ?_
                    rotate_left
                    · rintro w' ⟨s0, s1, s2, s3, s4, s5, s6, s7⟩; go_simp; with_reducible rfl
                    rotate_left
                    · simp only [Act.put, List.setIfInBounds_toArray, List.set_cons_zero, List.set_cons_succ, i64_w, i32_w]; rfl
                    refine take_ (i := 2) (N := some 33) (v := ?_) (a' := ?_) #[true, true, true, true, true, false, false, false, false, false] rfl rfl (take_ofW HT_.out HW_.out (by kernel_rfl)) (fun _ _ _ h => h) (Or.inl ⟨by rfl, ?_⟩) hHeld ?_ ?_
                    rotate_left
                    · rintro w' ⟨s0, s1, s2, s3, s4, s5, s6, s7⟩; go_simp; with_reducible rfl
                    rotate_left
                    · simp only [Act.put, List.setIfInBounds_toArray, List.set_cons_zero, List.set_cons_succ, i64_w, i32_w]; rfl
                    refine one_ (i := 5) (N := some 36) #[true, true, true, true, true, true, false, false, false, false] rfl rfl (one_of HT_.out (by kernel_rfl)) (by decide) (fun K hK => ?_)
                    refine goes_ Try.func40 (by kernel_rfl) rfl #[.agg #[.int .i64 a0_0, .int .i64 a0_1, .int .i64 a0_2, .slice A0_3 l0_3.length c0_3], .int .i64 x7_1, .int .i64 (rd t283 x27_2)] (by rfl) rfl rfl sqM ?_
                    with_reducible refine (impl_Matrix_at.calls a0_0 a0_1 a0_2 _ _ l0_3 x7_1 (rd t283 x27_2) t288 _ ?side1 ?side2 A21.out).mono ?_
                    (case side1 => exact sqC (Kd.C_below HR0_3.out HB.out))
                    (case side2 => exact HC0_3.out)
                    rintro e w24 ⟨rfl, hb⟩
                    refine ⟨_, rfl, ?_⟩
                    have n0_ := Aside0.mk (Kd.R_below (sqR HO_5.out) hb)
                    have n1_ := Aside0.mk (Kd.R_below (sqR HO_25.out) hb)
                    have n2_ := Aside0.mk (Kd.R_below (sqR HO_287003.out) hb)
                    have n3_ := Aside0.mk (blk_below (g := gb281) (o := .cells #[.int .i64 a0_0, .int .i64 a0_1, .int .i64 a0_2, .slice A0_3 l0_3.length c0_3] 27 (0, 0)) (sqK BK281.out) hb)
                    have n4_ := Aside0.mk (blk_below (g := gb282) (o := .cells #[.int .i64 0, .int .i64 0, .int .i64 0, .slice none 0 0] 27 (0, 0)) (sqK BK282.out) hb)
                    have n5_ := Aside0.mk (blk_below (g := gb286) (o := .cells #[.int .i64 a0_0, .int .i64 a0_1, .int .i64 (t283.length : Int), u287003] 27 (0, 0)) (sqK BK286.out) hb)
                    have n6_ := Aside0.mk (below_step sqB hb)
                    clear HO_5 HO_25 HO_287003 BK281 BK282 BK286 HB; have HO_5 := n0_; have HO_25 := n1_; have HO_287003 := n2_; have BK281 := n3_; have BK282 := n4_; have BK286 := n5_; have HB := n6_; clear n0_ n1_ n2_ n3_ n4_ n5_ n6_; (try clear hb); (try clear hb2); (try clear hk); (try clear hi)
                    refine hK.out _ _ ⟨(blk_cell BK286.out 0).trans rfl, (blk_cell BK286.out 1).trans rfl, (blk_cell BK286.out 2).trans rfl, (blk_cell BK286.out 3).trans rfl, (blk_cell BK281.out 0).trans rfl, (blk_cell BK281.out 1).trans rfl, (blk_cell BK281.out 2).trans rfl, (blk_cell BK281.out 3).trans rfl⟩ (fun hHeld => ?_)
                    clear hK K
                    refine norm_ (a' := ?_) ?_ ?_
                    rotate_left
                    · show Act.put _ (some 36) _ = _; simp only [Act.put, List.setIfInBounds_toArray, List.set_cons_zero, List.set_cons_succ, i64_w, i32_w]; rfl
                    refine one_ (i := 6) (N := some 37) #[true, true, true, true, true, true, true, false, false, false] rfl rfl (one_of HT_.out (by kernel_rfl)) (by decide) (fun K hK => ?_)
                    refine value_ (w1 := ?_) (v := ?_) (by rfl) rfl ?_ ?_
                    rotate_left 2
                    · go_simp
                      constructor
                      · rfl
                      · rfl
                    refine hK.out _ _ ⟨(blk_cell (blk_alloc BK286.out _) 0).trans rfl, (blk_cell (blk_alloc BK286.out _) 1).trans rfl, (blk_cell (blk_alloc BK286.out _) 2).trans rfl, (blk_cell (blk_alloc BK286.out _) 3).trans rfl, (blk_cell (blk_alloc BK281.out _) 0).trans rfl, (blk_cell (blk_alloc BK281.out _) 1).trans rfl, (blk_cell (blk_alloc BK281.out _) 2).trans rfl, (blk_cell (blk_alloc BK281.out _) 3).trans rfl⟩ (fun hHeld => ?_)
                    clear hK K
                    refine norm_ (a' := ?_) ?_ ?_
                    rotate_left
                    · show Act.put _ (some 37) _ = _; simp only [Act.put, List.setIfInBounds_toArray, List.set_cons_zero, List.set_cons_succ, i64_w, i32_w]; rfl
                    refine one_ (i := 7) (N := some 38) #[true, true, true, true, true, true, true, true, false, false] rfl rfl (one_of HT_.out (by kernel_rfl)) (by decide) (fun K hK => ?_)
                    refine Kd.R_append_step (Kd.int .i64) (w0 := w) w.heap.size (by rfl) (.tmp 32) (.tmp 37) 22 3 (.int .i64 0) 8 rfl Try.underlying22 info3 rfl (by decide) (by omega) u287003 x287003_2 t288 [.int .i64 t288] (fun k_ => some k_ ≠ (.slice (some ad287) t283.length co9 : Value).ownBlock ∧ some k_ ≠ (.slice (some ad287) t283.length co9 : Value).ownBlock) (fun _ => False) rfl rfl ?aP (fun _ hk => hk.elim) ?aF ?aO ?aB ?aS ?aL ?_
                    (case aP => exact rfl)
                    (case aB => exact sqB)
                    (case aF => exact (fun k_ hk => ⟨Kd.fresh' (Kd.R_lt (sqR HO_5.out)) k_ hk, Kd.fresh' (Kd.R_lt (sqR HO_25.out)) k_ hk⟩))
                    (case aO => exact (sqR HO_287003.out))
                    (case aS => exact (below_size sqB))
                    (case aL => have := LMc22.out; omega)
                    intro v290 w25 ho hb hg hat
                    rw [← Ny289.out] at ho
                    have n0_ := Aside0.mk (Kd.R_after (ok := (fun _ => True)) (by refine sqR ?_; exact Kd.R_mono HO_5.out (fun _ hk => ⟨trivial, by first | exact hk | exact fun h_ => hk (h_.trans ((fun (A : Option Addr) (x y c : Nat) => (by cases A <;> rfl : (Value.slice A x c).ownBlock = (Value.slice A y c).ownBlock)) _ _ _ _))⟩)) hg hat)
                    have n1_ := Aside0.mk (Kd.R_after (ok := (fun _ => True)) (by refine sqR ?_; exact Kd.R_mono HO_25.out (fun _ hk => ⟨trivial, by first | exact hk | exact fun h_ => hk (h_.trans ((fun (A : Option Addr) (x y c : Nat) => (by cases A <;> rfl : (Value.slice A x c).ownBlock = (Value.slice A y c).ownBlock)) _ _ _ _))⟩)) hg hat)
                    have n2_ := Aside0.mk (blk_grown (g := gb281) (o := .cells #[.int .i64 a0_0, .int .i64 a0_1, .int .i64 a0_2, .slice A0_3 l0_3.length c0_3] 27 (0, 0)) (sqK BK281.out) hg (Kd.R_ne HO_287003.out BK281.out (by decide)))
                    have n3_ := Aside0.mk (blk_grown (g := gb282) (o := .cells #[.int .i64 0, .int .i64 0, .int .i64 0, .slice none 0 0] 27 (0, 0)) (sqK BK282.out) hg (Kd.R_ne HO_287003.out BK282.out (by decide)))
                    have n4_ := Aside0.mk (blk_grown (g := gb286) (o := .cells #[.int .i64 a0_0, .int .i64 a0_1, .int .i64 (t283.length : Int), u287003] 27 (0, 0)) (sqK BK286.out) hg (Kd.R_ne HO_287003.out BK286.out (by decide)))
                    have n5_ := Aside0.mk (hb)
                    have n6_ := Aside0.mk (ho)
                    clear HO_5 HO_25 BK281 BK282 BK286 HB HO_287003; have HO_5 := n0_; have HO_25 := n1_; have BK281 := n2_; have BK282 := n3_; have BK286 := n4_; have HB := n5_; have HO291 := n6_; clear n0_ n1_ n2_ n3_ n4_ n5_ n6_ ho hb hg hat
                    obtain ⟨Ao26, co26, eo26⟩ := Kd.R_slice HO291.out
                    (first | subst eo26 | (injection eo26 with f1_ f2_ f3_; have f4_ := f1_.symm; have f5_ := f3_.symm; clear f1_ f2_ f3_; subst f4_; subst f5_))
                    refine hK.out _ _ ⟨(blk_cell BK286.out 0).trans rfl, (blk_cell BK286.out 1).trans rfl, (blk_cell BK286.out 2).trans rfl, (blk_cell BK286.out 3).trans rfl, (blk_cell BK281.out 0).trans rfl, (blk_cell BK281.out 1).trans rfl, (blk_cell BK281.out 2).trans rfl, (blk_cell BK281.out 3).trans rfl⟩ (fun hHeld => ?_)
                    clear hK K
                    refine norm_ (a' := ?_) ?_ ?_
                    rotate_left
                    · show Act.put _ (some 38) _ = _; simp only [Act.put, List.setIfInBounds_toArray, List.set_cons_zero, List.set_cons_succ, i64_w, i32_w]; rfl
                    refine pure_ (i := 8) (N := some 39) (v := ?_) (a' := ?_) #[true, true, true, true, true, true, true, true, true, false] rfl rfl (any_of HT_.out (by kernel_rfl)) (fun _ _ _ h => h) (Or.inl ⟨by rfl, ?_⟩) ?_ ?_
                    rotate_left
                    · intro w'; go_simp; with_reducible rfl
                    rotate_left
                    · simp only [Act.put, List.setIfInBounds_toArray, List.set_cons_zero, List.set_cons_succ, i64_w, i32_w]; rfl
                    refine last_ (i := 9) (N := none) #[true, true, true, true, true, true, true, true, true, true] rfl rfl (one_of HT_.out (by kernel_rfl)) (by decide) (fun K hK => ?_)
                    have hs27 : w25.cell? ⟨gb286, 3, none⟩ = some (u287003) := (blk_cell BK286.out 3).trans rfl
                    have hfs27 := blk_frozen BK286.out 3
                    have hns27_0 := NB281_286.out
                    have hns27_1 := NB282_286.out
                    have hms27_0 := NB286_281.out
                    have hms27_1 := NB286_282.out
                    refine skip_ (w1 := ?_) (by rfl) rfl ?_ ?_
                    rotate_left
                    · go_simp
                      rfl
                    refine hK.out _ _ ?_
                    clear hK K
                    refine done_ (done_of HT_.out (by kernel_rfl)) ?_
                    try go_wp2
                    go_roundg k2
                    case measure => have := HK1.out; have := HK2.out; omega
                    case rel => exact ⟨(wrap64 (x27_2 + 1)), (y289), (.slice Ao26 y289.length co26), (sqD), H', ⟨by have := HK1.out; have := HK2.out; omega⟩, ⟨by refine sqR ?_; exact Kd.R_mono (Kd.R_far (p := ⟨gb286, 3, none⟩) (Kd.R_types HO_5.out BK286.out (by decide)) (fun _ hk => hk.2) (.slice Ao26 y289.length co26)) (fun _ hk => hk.1.2)⟩, ⟨by refine sqR ?_; exact Kd.R_mono (Kd.R_far (p := ⟨gb286, 3, none⟩) (Kd.R_types HO_25.out BK286.out (by decide)) (fun _ hk => hk.2) (.slice Ao26 y289.length co26)) (fun _ hk => hk.1.2)⟩, ⟨by refine sqR ?_; exact Kd.R_mono (Kd.R_far (p := ⟨gb286, 3, none⟩) (Kd.R_types HO291.out BK286.out (by decide)) (fun _ hk => hk.2) (.slice Ao26 y289.length co26)) (fun _ hk => by first | exact ⟨hk.1.1, hk.1.2⟩ | (refine ⟨?_, ?_⟩ <;> intro e_ <;> simp only [e_, ne_eq, not_true_eq_false, and_false, false_and] at hk))⟩, ⟨by refine sqK ?_; refine blk_far ?_ NB281_286.out _; refine sqK ?_; exact BK281.out⟩, ⟨by refine sqK ?_; refine blk_far ?_ NB282_286.out _; refine sqK ?_; exact BK282.out⟩, ⟨by refine sqK ?_; refine blk_put (cs := #[.int .i64 a0_0, .int .i64 a0_1, .int .i64 (t283.length : Int), u287003]) ?_ 3 _ rfl; refine sqK ?_; exact BK286.out⟩, ⟨sqB⟩⟩
                  · rw [if_neg c22] at H
                    exact absurd H (by simp)
                · rw [if_neg c20] at H
                  exact absurd H (by simp)
              · rw [if_neg c19] at H
                exact absurd H (by simp)
            · rw [if_neg c18] at H
              have c18b0 : decide (x27_2 < (t283.length : Int)) = false := decide_eq_false c18
              clear c18
              have H' := Aside0.mk H
              clear H
              go_wp2
              go_roundg k2
              case measure => have := HK1.out; have := HK2.out; omega
              case rel => exact ⟨(wrap64 (x7_1 + 1)), (x287003_2), (u287003), (sqD), H', ⟨by have := HK1.out; have := HK2.out; omega⟩, ⟨sqR HO_5.out⟩, ⟨by refine sqR ?_; exact Kd.R_mono HO_287003.out (fun _ hk => hk.1)⟩, ⟨sqK BK281.out⟩, ⟨sqK BK282.out⟩, ⟨sqK BK286.out⟩, ⟨sqB⟩⟩
      · rw [if_neg c14] at H
        have c14b0 : decide (x7_1 < a0_1) = false := decide_eq_false c14
        clear c14
        simp only [Option.some.injEq, Prod.mk.injEq] at H
        obtain ⟨rfl, rfl, rfl, rfl⟩ := H
        have hnb28 := NB281_282.out
        have hnc28 := NB282_281.out
        have hnb29 := NB281_286.out
        have hnc29 := NB286_281.out
        have hcz30_0 : wr.cell? ⟨gb281, 0, none⟩ = some (.int .i64 a0_0) := (blk_cell BK281.out 0).trans rfl
        have hcz30_1 : wr.cell? ⟨gb281, 1, none⟩ = some (.int .i64 a0_1) := (blk_cell BK281.out 1).trans rfl
        have hcz30_2 : wr.cell? ⟨gb281, 2, none⟩ = some (.int .i64 a0_2) := (blk_cell BK281.out 2).trans rfl
        have hcz30_3 : wr.cell? ⟨gb281, 3, none⟩ = some (.slice A0_3 l0_3.length c0_3) := (blk_cell BK281.out 3).trans rfl
        have hfz30_0 := blk_frozen BK281.out 0; have hfz30_1 := blk_frozen BK281.out 1; have hfz30_2 := blk_frozen BK281.out 2; have hfz30_3 := blk_frozen BK281.out 3
        have hnb31 := NB286_282.out
        have hnc31 := NB282_286.out
        have hcz32_0 : wr.cell? ⟨gb286, 0, none⟩ = some (.int .i64 a0_0) := (blk_cell BK286.out 0).trans rfl
        have hcz32_1 : wr.cell? ⟨gb286, 1, none⟩ = some (.int .i64 a0_1) := (blk_cell BK286.out 1).trans rfl
        have hcz32_2 : wr.cell? ⟨gb286, 2, none⟩ = some (.int .i64 (t283.length : Int)) := (blk_cell BK286.out 2).trans rfl
        have hcz32_3 : wr.cell? ⟨gb286, 3, none⟩ = some (u287003) := (blk_cell BK286.out 3).trans rfl
        have hfz32_0 := blk_frozen BK286.out 0; have hfz32_1 := blk_frozen BK286.out 1; have hfz32_2 := blk_frozen BK286.out 2; have hfz32_3 := blk_frozen BK286.out 3
        have hcz33_0 : wr.cell? ⟨gb282, 0, none⟩ = some (.int .i64 0) := (blk_cell BK282.out 0).trans rfl
        have hcz33_1 : wr.cell? ⟨gb282, 1, none⟩ = some (.int .i64 0) := (blk_cell BK282.out 1).trans rfl
        have hcz33_2 : wr.cell? ⟨gb282, 2, none⟩ = some (.int .i64 0) := (blk_cell BK282.out 2).trans rfl
        have hcz33_3 : wr.cell? ⟨gb282, 3, none⟩ = some (.slice none 0 0) := (blk_cell BK282.out 3).trans rfl
        have hfz33_0 := blk_frozen BK282.out 0; have hfz33_1 := blk_frozen BK282.out 1; have hfz33_2 := blk_frozen BK282.out 2; have hfz33_3 := blk_frozen BK282.out 3
        obtain ⟨Ao34, co34, eo34⟩ := Kd.R_slice HO_287003.out
        subst eo34
        go_wp2
        refine bodyPost_ret (results_cell_row rfl _ _ gb282 27 #[.int .i64 a0_0, .int .i64 a0_1, .int .i64 (t283.length : Int), .slice Ao34 x287003_1.length co34] (0, 0) _ rfl (by refine sqK ?_; refine blk_put (cs := #[.int .i64 a0_0, .int .i64 a0_1, .int .i64 (t283.length : Int), .slice none 0 0]) ?_ 3 _ rfl; refine sqK ?_; refine blk_put (cs := #[.int .i64 a0_0, .int .i64 a0_1, .int .i64 0, .slice none 0 0]) ?_ 2 _ rfl; refine sqK ?_; refine blk_put (cs := #[.int .i64 a0_0, .int .i64 0, .int .i64 0, .slice none 0 0]) ?_ 1 _ rfl; refine sqK ?_; refine blk_put (cs := #[.int .i64 0, .int .i64 0, .int .i64 0, .slice none 0 0]) ?_ 0 _ rfl; refine sqK ?_; exact BK282.out) Try.underlying27 rfl (by kernel_rfl)) rfl ?_
        exact ⟨_, sqE, by refine sqR ?_; exact Kd.R_mono (Kd.R_far (p := ⟨gb282, 3, none⟩) (Kd.R_far (p := ⟨gb282, 2, none⟩) (Kd.R_far (p := ⟨gb282, 1, none⟩) (Kd.R_far (p := ⟨gb282, 0, none⟩) (Kd.R_types HO_287003.out BK282.out (by decide)) (fun _ hk => hk.2) (.int .i64 a0_0)) (fun _ hk => hk.2) (.int .i64 a0_1)) (fun _ hk => hk.2) (.int .i64 (t283.length : Int))) (fun _ hk => hk.2) (.slice Ao34 x287003_1.length co34)) (fun _ hk => trivial), sqB⟩

end Go.Proofs.Ytopkfhnnapncgaa.F
end
section
namespace Go.Proofs.Ytopkfhnnapncgaa.L
open Go.RowKit Go.Proofs.Ytopkfhnnapncgaa.F Go.Proofs.YtopkfhnnapncgaaW.PrintWords Go.Proofs.YtopkfhnnapncgaaW.PrintLast Go.Proofs.YtopkfhnnapncgaaW.PrintMore
open Go.Proofs.Ytopkfhnnapncgaa.Bits
open Go.Proofs.Ytopkfhnnapncgaa.Mt (sdiff bit_sdiff elems mem_elems)

theorem l1In (x a b : Int) : spec_l1In.f x a b = some (decide (a ≤ x ∧ x ≤ b)) := by
  unfold spec_l1In.f
  split <;> simp <;> omega

end Go.Proofs.Ytopkfhnnapncgaa.L
end
section
namespace Go.Proofs.Ytopkfhnnapncgaa.L
open Go.RowKit Go.Proofs.Ytopkfhnnapncgaa.F Go.Proofs.YtopkfhnnapncgaaW.PrintWords Go.Proofs.YtopkfhnnapncgaaW.PrintLast Go.Proofs.YtopkfhnnapncgaaW.PrintMore
open Go.Proofs.Ytopkfhnnapncgaa.Bits

theorem all_eq_range (l l' : List Int) (h : l.length = l'.length) : (List.range l.length).all (fun i => decide (l.getD i 0 = l'.getD i 0)) = decide (l = l') := by
  rw [Bool.eq_iff_iff, List.all_eq_true, decide_eq_true_iff]
  constructor
  · intro hh
    apply List.ext_getElem h
    intro i h1 h2
    have := hh i (by simpa using h1)
    simpa [List.getElem?_eq_getElem h1, List.getElem?_eq_getElem h2] using this
  · rintro rfl i _
    simp

theorem eqIntS (l l' : List Int) (h : l.length ≤ 17592186044416) : Ev (fun k => laws_eqIntS.f k l l') (decide (l = l')) := by
  unfold laws_eqIntS.f
  by_cases e : l.length = l'.length
  · simp only [show ((l.length : Int) = (l'.length : Int)) by omega, if_true]
    rw [← all_eq_range l l' e]
    refine loop_all0 _ _ _ (fun k => by simp only [laws_eqIntS.l0, show ¬ ((l.length : Int) < (l.length : Int)) by omega, if_false]) ?_
    intro i hi k
    simp only [laws_eqIntS.l0, show ((i : Int) < (l.length : Int)) by omega, show ((i : Int) < (l'.length : Int)) by omega, show (0 : Int) ≤ (i : Int) by omega, if_true, rd_getD, wrap_succ (show i < 9223372036854775807 by omega), decide_eq_true_eq]
  · simp only [show ¬ ((l.length : Int) = (l'.length : Int)) by omega, if_false]
    rw [show decide (l = l') = false by simp; rintro rfl; exact e rfl]
    exact Ev.now _

theorem szIntS (l : List Int) (n : Int) (h : l.length ≤ 17592186044416) (h0 : 0 ≤ n) (h1 : n ≤ 1048576) : laws_szIntS.f l n = some (if n < l.length then -1 else n - l.length) := by
  unfold laws_szIntS.f
  have hw : wrap64 (n - (l.length : Int)) = n - (l.length : Int) := wrap_in (by omega) (by omega)
  rw [hw]
  split
  · rw [if_pos (by omega)]
  · rw [if_neg (by omega)]
theorem fold_copy (l : List Int) : ∀ n, n ≤ l.length → (List.range n).foldl (fun a i => a.set i (l.getD i 0)) (List.replicate l.length 0) = l.take n ++ List.replicate (l.length - n) 0
  | 0, _ => by simp
  | n + 1, h => by
    rw [List.range_succ, List.foldl_append, fold_copy l n (by omega)]
    simp only [List.foldl_cons, List.foldl_nil]
    obtain ⟨m, hm⟩ : ∃ m, l.length - n = m + 1 := ⟨l.length - n - 1, by omega⟩
    rw [hm, List.replicate_succ, List.set_append_right _ _ (by simp; omega)]
    have : n - (List.take n l).length = 0 := by simp; omega
    rw [this, List.set_cons_zero, show l.length - (n + 1) = m by omega]
    have hg : l.getD n 0 = l[n] := by simp [List.getElem?_eq_getElem (show n < l.length by omega)]
    rw [List.take_succ_eq_append_getElem (by omega), List.append_assoc, List.singleton_append, hg]

theorem toIntS (l : List Int) (h : l.length ≤ 17592186044416) : Ev (fun k => laws_toIntS.f k l) l := by
  unfold laws_toIntS.f
  simp only [show (0 : Int) ≤ (l.length : Int) by omega, Int.toNat_natCast, show l.length ≤ 35184372088832 by omega, if_true]
  have key := loop_fold0 (fun k s i => laws_toIntS.l0 k l s i) l.length (fun a i => a.set i (l.getD i 0)) (fun _ s => s.length = l.length) id
    (fun s hs => by
      simp only [laws_toIntS.l0, show ¬ ((l.length : Int) < (l.length : Int)) by omega, if_false]
      exact Ev.now _)
    (fun i s hi hs => ⟨by simp [hs], fun r hr => by
      simp only [laws_toIntS.l0, show ((i : Int) < (l.length : Int)) by omega, show ((i : Int) < (s.length : Int)) by omega, show (0 : Int) ≤ (i : Int) by omega, if_true, Int.toNat_natCast, rd_getD, wrap_succ (show i < 9223372036854775807 by omega)]
      exact hr⟩) (List.replicate l.length 0) (by simp)
  rw [fold_copy l l.length (Nat.le_refl _)] at key
  simpa using key
end Go.Proofs.Ytopkfhnnapncgaa.L
end
section
namespace Go.Proofs.Ytopkfhnnapncgaa.L
open Go.RowKit Go.Proofs.Ytopkfhnnapncgaa.F Go.Proofs.YtopkfhnnapncgaaW.PrintWords Go.Proofs.YtopkfhnnapncgaaW.PrintLast Go.Proofs.YtopkfhnnapncgaaW.PrintMore
open Go.Proofs.Ytopkfhnnapncgaa.Bits
set_option linter.unusedSimpArgs false
set_option linter.unusedVariables false
/-- What a graph is: vertices from 0 to 6, at most eight edges, the ends among the vertices. -/
def isGraph (v : Int) (a b : List Int) : Bool :=
  decide (0 ≤ v ∧ v ≤ 6 ∧ a.length ≤ 8 ∧ a.length = b.length) && (List.range a.length).all fun i => decide (0 ≤ a.getD i 0 ∧ a.getD i 0 < v ∧ 0 ≤ b.getD i 0 ∧ b.getD i 0 < v)
theorem IsGraph_s (v : Int) (a b : List Int) : Ev (fun k => spec_IsGraph.f k v a b) (isGraph v a b) := by
  have no : ∀ v a b, Ev (fun k => spec_IsGraph.j0 k true v a b) false := fun v a b => Ev.succ (by simp only [spec_IsGraph.j0, if_true]; exact Ev.now _)
  unfold spec_IsGraph.f isGraph
  simp only [l1In, Option.bind_some, decide_eq_true_eq]
  by_cases hv : 0 ≤ v ∧ v ≤ 6
  · simp only [hv, and_self, if_true, true_and]
    by_cases h8 : a.length ≤ 8
    · simp only [show ¬ ((a.length : Int) > 8) by omega, if_false, h8, true_and]
      by_cases he : a.length = b.length
      · rw [show ((a.length : Int) != (b.length : Int)) = false by simp; omega]
        refine Ev.succ ?_
        simp only [spec_IsGraph.j0, Bool.false_eq_true, if_false, he, decide_true, Bool.true_and]
        rw [← he]
        refine loop_all0 (fun k i => spec_IsGraph.l0 k i v a b) _ _ (fun k => by simp only [spec_IsGraph.l0, show ¬ ((a.length : Int) < (a.length : Int)) by omega, if_false]) ?_
        intro i hi k
        have hw : wrap64 (v - 1) = v - 1 := wrap_in (by omega) (by omega)
        simp only [spec_IsGraph.l0, show ((i : Int) < (a.length : Int)) by omega, show ((i : Int) < (b.length : Int)) by omega, show (0 : Int) ≤ (i : Int) by omega, if_true, rd_getD, wrap_succ (show i < 9223372036854775807 by omega), l1In, hw, Option.bind_some, decide_eq_true_eq]
        generalize a.getD i 0 = x
        generalize b.getD i 0 = y
        by_cases h1 : 0 ≤ x ∧ x ≤ v - 1
        · rw [if_pos h1]
          by_cases h2 : 0 ≤ y ∧ y ≤ v - 1
          · rw [if_pos h2, if_pos (by omega)]
          · rw [if_neg h2, if_neg (by omega)]
        · rw [if_neg h1, if_neg (by omega)]
      · rw [show ((a.length : Int) != (b.length : Int)) = true by simp; omega]
        simp only [he, decide_false, Bool.false_and]
        exact no _ _ _
    · simp only [show ((a.length : Int) > 8) by omega, if_true, h8, false_and, decide_false, Bool.false_and]
      exact no _ _ _
  · simp only [hv, if_false, show ¬ (0 ≤ v ∧ v ≤ 6 ∧ a.length ≤ 8 ∧ a.length = b.length) by omega, decide_false, Bool.false_and]
    exact no _ _ _
theorem IsGraph_i (v : Int) (a b : List Int) : Ev (fun k => impl_IsGraph.f k v a b) (isGraph v a b) := by
  have no : ∀ v a b, Ev (fun k => impl_IsGraph.j0 k true v a b) false := fun v a b => Ev.succ (by simp only [impl_IsGraph.j0, if_true]; exact Ev.now _)
  unfold impl_IsGraph.f isGraph
  by_cases hv : 0 ≤ v ∧ v ≤ 6
  · simp only [show ¬ v < 0 by omega, show ¬ v > 6 by omega, if_false, hv, true_and]
    by_cases h8 : a.length ≤ 8
    · simp only [show ¬ ((a.length : Int) > 8) by omega, if_false, h8, true_and]
      by_cases he : a.length = b.length
      · rw [show ((a.length : Int) != (b.length : Int)) = false by simp; omega]
        refine Ev.succ ?_
        simp only [impl_IsGraph.j0, Bool.false_eq_true, if_false, he, decide_true, Bool.true_and]
        rw [← he]
        refine loop_all0 (fun k i => impl_IsGraph.l0 k (a.length : Int) i v a b) _ _ (fun k => by simp only [impl_IsGraph.l0, show ¬ ((a.length : Int) < (a.length : Int)) by omega, if_false]) ?_
        intro i hi k
        simp only [impl_IsGraph.l0, show ((i : Int) < (a.length : Int)) by omega, show ((i : Int) < (b.length : Int)) by omega, show (0 : Int) ≤ (i : Int) by omega, if_true, rd_getD, wrap_succ (show i < 9223372036854775807 by omega), decide_eq_true_eq]
        generalize a.getD i 0 = x
        generalize b.getD i 0 = y
        by_cases h1 : x < 0
        · rw [if_pos h1, if_neg (by omega)]
        rw [if_neg h1]
        by_cases h2 : x ≥ v
        · rw [if_pos h2, if_neg (by omega)]
        rw [if_neg h2]
        by_cases h3 : y < 0
        · rw [if_pos h3, if_neg (by omega)]
        rw [if_neg h3]
        by_cases h4 : y ≥ v
        · rw [if_pos h4, if_neg (by omega)]
        rw [if_neg h4, if_pos (by omega)]
      · rw [show ((a.length : Int) != (b.length : Int)) = true by simp; omega]
        simp only [he, decide_false, Bool.false_and]
        exact no _ _ _
    · simp only [show ((a.length : Int) > 8) by omega, if_true, h8, false_and, decide_false, Bool.false_and]
      exact no _ _ _
  · simp only [show ¬ (0 ≤ v ∧ v ≤ 6 ∧ a.length ≤ 8 ∧ a.length = b.length) by omega, decide_false, Bool.false_and]
    by_cases h1 : v < 0
    · simp only [h1, if_true]; exact no _ _ _
    · simp only [h1, if_false, show v > 6 by omega, if_true]; exact no _ _ _
theorem toGraph (v : Int) (a b : List Int) (ha : a.length ≤ 17592186044416) (hb : b.length ≤ 17592186044416) : Ev (fun k => laws_toGraph.f k v a b) (v, a, b) := by
  unfold laws_toGraph.f
  exact Ev.bind (toIntS a ha) (Ev.bind (toIntS b hb) (Ev.now _))
theorem eqGraph (v : Int) (a b : List Int) (ha : a.length ≤ 17592186044416) (hb : b.length ≤ 17592186044416) : Ev (fun k => laws_eqGraph.f k v a b v a b) true := by
  unfold laws_eqGraph.f
  simp only [if_true]
  refine Ev.bind (eqIntS a a ha) ?_
  simp only [decide_true, if_true]
  refine Ev.bind (eqIntS b b hb) ?_
  simp only [decide_true, if_true]
  exact Ev.now _
theorem szGraph (v : Int) (a b : List Int) (ha : a.length ≤ 17592186044416) (hb : b.length ≤ 17592186044416) : ∃ n, laws_szGraph.f v a b 1048576 = some n ∧ (n < 0 ∨ (0 ≤ n ∧ n ≤ 1048576 ∧ a.length ≤ 1048576 ∧ b.length ≤ 1048576)) := by
  unfold laws_szGraph.f
  rw [szIntS a _ ha (by decide) (by decide)]
  simp only [Option.bind_some]
  by_cases h1 : (1048576 : Int) < (a.length : Int)
  · rw [if_pos h1, if_pos (by decide)]; exact ⟨_, rfl, .inl (by decide)⟩
  · rw [if_neg h1, if_neg (by omega), szIntS b _ hb (by omega) (by omega)]
    simp only [Option.bind_some]
    by_cases h2 : (1048576 : Int) - (a.length : Int) < (b.length : Int)
    · rw [if_pos h2, if_pos (by decide)]; exact ⟨_, rfl, .inl (by decide)⟩
    · rw [if_neg h2, if_neg (by omega)]; exact ⟨_, rfl, .inr (by omega)⟩
/-- What a graph holds, in natural numbers. -/
theorem graph_parts {v : Int} {a b : List Int} (h : isGraph v a b = true) : ∃ V : Nat, v = V ∧ V ≤ 6 ∧ a.length ≤ 8 ∧ a.length = b.length ∧ ∀ i, i < a.length → (0 ≤ a.getD i 0 ∧ a.getD i 0 < V ∧ 0 ≤ b.getD i 0 ∧ b.getD i 0 < V) := by
  unfold isGraph at h
  simp only [Bool.and_eq_true, decide_eq_true_eq] at h
  obtain ⟨⟨h1, h2, h3, h4⟩, h5⟩ := h
  obtain ⟨V, rfl⟩ := Int.eq_ofNat_of_zero_le h1
  refine ⟨V, rfl, by omega, h3, h4, fun i hi => ?_⟩
  have := List.all_eq_true.1 h5 i (by simpa using hi)
  simpa using this
end Go.Proofs.Ytopkfhnnapncgaa.L
end
section
namespace Go.Proofs.Ytopkfhnnapncgaa.L
open Go.RowKit Go.Proofs.Ytopkfhnnapncgaa.F Go.Proofs.YtopkfhnnapncgaaW.PrintWords Go.Proofs.YtopkfhnnapncgaaW.PrintLast Go.Proofs.YtopkfhnnapncgaaW.PrintMore
open Go.Proofs.Ytopkfhnnapncgaa.Bits
set_option linter.unusedSimpArgs false
set_option linter.unusedVariables false
theorem cn_dig' (P : List Int → Bool) (q V : Nat) : cn P q V [] = sm (fun n => if P (dig q V n) = true then 1 else 0) (q ^ V) := by
  by_cases hq : 0 < q
  · simpa using cn_dig P hq V []
  · have : q = 0 := by omega
    subst this
    cases V with
    | zero =>
      simp only [cn, Nat.pow_zero, sm, dig, Nat.zero_add]
      rfl
    | succ V => simp [cn, sm, Nat.pow_succ]
theorem power_s {q V : Nat} (hq : q ≤ 4) (hV : V ≤ 8) : Ev (fun k => spec_l14Power.f k q V) ((q ^ V : Nat) : Int) := by
  unfold spec_l14Power.f
  have key := loop_reach (fun k acc i => spec_l14Power.l0 k q V acc i) V (fun acc i => wrap64 (acc * q)) (fun i acc => acc = ((q ^ i : Nat) : Int))
    (fun i acc hi ha => ⟨by
      have hb := pow_small hq (show i + 1 ≤ 8 by omega)
      rw [ha, show ((q ^ i : Nat) : Int) * (q : Int) = ((q ^ (i + 1) : Nat) : Int) by rw [Nat.pow_succ]; simp, wrap_in (by omega) (by omega)], fun r hr => by
      simp only [spec_l14Power.l0, show ((i : Int) < (V : Int)) by omega, if_true, wrap_succ (show i < 9223372036854775807 by omega)]
      exact hr⟩) 1 (by simp)
  refine key.2 _ (Ev.succ ?_)
  rw [key.1]
  simp only [spec_l14Power.l0, show ¬ ((V : Int) < (V : Int)) by omega, if_false]
  exact Ev.now _
end Go.Proofs.Ytopkfhnnapncgaa.L
end
section
namespace Go.Proofs.Ytopkfhnnapncgaa.L
open Go.RowKit Go.Proofs.Ytopkfhnnapncgaa.F Go.Proofs.YtopkfhnnapncgaaW.PrintWords Go.Proofs.YtopkfhnnapncgaaW.PrintLast Go.Proofs.YtopkfhnnapncgaaW.PrintMore
open Go.Proofs.Ytopkfhnnapncgaa.Bits
set_option linter.unusedSimpArgs false
set_option linter.unusedVariables false
theorem dig_get (q : Nat) : ∀ m k n, k < m → (dig q m n).getD k 0 = ((n / q ^ k % q : Nat) : Int)
  | 0, k, n, h => absurd h (by omega)
  | m + 1, 0, n, h => by simp [dig]
  | m + 1, k + 1, n, h => by
    rw [dig, List.getD_cons_succ, dig_get q m k (n / q) (by omega), Nat.div_div_eq_div_mul, Nat.pow_succ, Nat.mul_comm q]
theorem gset {s : List Int} {a : Nat} (h : a < s.length) (x : Int) (v : Nat) : (s.set a x).getD v 0 = if v = a then x else s.getD v 0 := by
  rw [List.getD_eq_getElem?_getD, List.getElem?_set, List.getD_eq_getElem?_getD]
  by_cases e : v = a
  · subst e; simp [h]
  · rw [if_neg (fun k => e k.symm), if_neg e]
def stepI (F T l : List Int) (s : List Int) (k : Nat) : List Int :=
  (s.set (F.getD k 0).toNat (wrap64 (rd s (F.getD k 0) + l.getD k 0))).set (T.getD k 0).toNat (wrap64 (rd (s.set (F.getD k 0).toNat (wrap64 (rd s (F.getD k 0) + l.getD k 0))) (T.getD k 0) - l.getD k 0))
def testI (q : Int) (s : List Int) : Bool := (List.range s.length).all fun v => decide (Int.tmod (s.getD v 0) q = 0)
theorem stepI_length (F T l s : List Int) (k : Nat) : (stepI F T l s k).length = s.length := by simp [stepI]
def flowP (V : Nat) (q : Int) (F T d : List Int) : Bool := testI q ((List.range' 0 F.length).foldl (stepI F T (d.map fun x => x + 1)) (List.replicate V 0))
section
variable {V Q : Nat} {F T : List Int}
theorem flow_l1 {q : Int} (hq : ¬ q = 0) (s : List Int) (hs : s.length ≤ 8) : ∀ (d i k : Nat), i + d = s.length → d + 1 ≤ k → impl_Flows_1.l1 k q s (s.length : Int) (i : Int) = some ((List.range' i d).all fun v => decide (Int.tmod (s.getD v 0) q = 0))
  | 0, i, k, hi, hk => by
    obtain ⟨k, rfl⟩ : ∃ k', k = k' + 1 := ⟨k - 1, by omega⟩
    simp [impl_Flows_1.l1, show ¬ ((i : Int) < (s.length : Int)) by omega]
  | d + 1, i, k, hi, hk => by
    obtain ⟨k, rfl⟩ : ∃ k', k = k' + 1 := ⟨k - 1, by omega⟩
    rw [List.range'_succ, List.all_cons]
    simp only [impl_Flows_1.l1, show ((i : Int) < (s.length : Int)) by omega, show (0 : Int) ≤ (i : Int) by omega, if_true, if_neg hq, rd_getD, wrap_succ (show i < 9223372036854775807 by omega)]
    by_cases h : Int.tmod (s.getD i 0) q = 0
    · rw [if_pos h, decide_eq_true h, Bool.true_and]; exact flow_l1 hq s hs d (i + 1) k (by omega) (by omega)
    · rw [if_neg h, decide_eq_false h, Bool.false_and]
theorem flow_l0 {q : Int} (hq : ¬ q = 0) (hV : V ≤ 6) (hE : F.length = T.length) (hp : ∀ i, i < F.length → (0 ≤ F.getD i 0 ∧ F.getD i 0 < V ∧ 0 ≤ T.getD i 0 ∧ T.getD i 0 < V)) (hF : F.length ≤ 8) {l : List Int} (hl : l.length = F.length) :
    ∀ (d i k : Nat) (s : List Int), i + d = F.length → s.length = V → d + V + 2 ≤ k → impl_Flows_1.l0 k l q s (F.length : Int) (i : Int) V F T = some (testI q ((List.range' i d).foldl (stepI F T l) s))
  | 0, i, k, s, hi, hs, hk => by
    obtain ⟨k, rfl⟩ : ∃ k', k = k' + 1 := ⟨k - 1, by omega⟩
    simp only [impl_Flows_1.l0, show ¬ ((i : Int) < (F.length : Int)) by omega, if_false]
    have := flow_l1 hq s (by omega) s.length 0 k (by omega) (by omega)
    rw [show ((0 : Nat) : Int) = 0 from rfl] at this
    rw [this]
    unfold testI
    rw [List.range_eq_range']; rfl
  | d + 1, i, k, s, hi, hs, hk => by
    obtain ⟨k, rfl⟩ : ∃ k', k = k' + 1 := ⟨k - 1, by omega⟩
    obtain ⟨h1, h2, h3, h4⟩ := hp i (by omega)
    rw [List.range'_succ, List.foldl_cons]
    simp only [impl_Flows_1.l0, show ((i : Int) < (F.length : Int)) by omega, show (0 : Int) ≤ (i : Int) by omega, show ((i : Int) < (T.length : Int)) by omega, show ((i : Int) < (l.length : Int)) by omega, if_true, rd_getD, h1, h3, hs, h2, h4, Option.bind_some, wrap_succ (show i < 9223372036854775807 by omega)]
    exact flow_l0 hq hV hE hp hF hl d (i + 1) k (stepI F T l s i) (by omega) (by rw [stepI_length]; exact hs) (by omega)
theorem flows_i (hV : V ≤ 6) (hQ : Q ≤ 3) (hE : F.length = T.length) (hp : ∀ i, i < F.length → (0 ≤ F.getD i 0 ∧ F.getD i 0 < V ∧ 0 ≤ T.getD i 0 ∧ T.getD i 0 < V)) (hF : F.length ≤ 8) :
    Ev (fun k => countO (fun l => impl_Flows_1.f (impl_Flows.K V F) l V F T ((Q : Int) + 1)) (F.length : Int) 1 (Q : Int) k) ((cn (flowP V ((Q : Int) + 1) F T) Q F.length [] : Nat) : Int) := by
  have h := countO_ev (fun l => impl_Flows_1.f (impl_Flows.K V F) l V F T ((Q : Int) + 1)) (flowP V ((Q : Int) + 1) F T) (V := F.length) (q := Q) 1 (by decide) (by omega) hF fun l hl => by
    have e : (l.map fun x => x - ((1 : Nat) : Int)).map (fun x => x + 1) = l := by
      rw [List.map_map]
      conv => rhs; rw [← List.map_id l]
      exact List.map_congr_left fun x _ => by simp
    have := flow_l0 (q := (Q : Int) + 1) (by omega) hV hE hp hF hl F.length 0 (impl_Flows.K V F) (List.replicate V 0) (by omega) (by simp) (by unfold impl_Flows.K; omega)
    unfold impl_Flows_1.f flowP
    rw [e]
    simp only [show (0 : Int) ≤ (V : Int) by omega, if_true, Int.toNat_natCast, if_pos (show V ≤ 35184372088832 by omega)]
    exact this
  rw [show (((1 : Nat) : Int) + (Q : Int) - 1) = (Q : Int) by omega] at h
  exact h
/-- What the sums of the two keep of each other. -/
def Rel (V : Nat) (q : Int) (k : Nat) (s t : List Int) : Prop := s.length = V ∧ t.length = V ∧ ∀ v, -(8 * k : Int) ≤ s.getD v 0 ∧ s.getD v 0 ≤ 8 * k ∧ -(8 * k : Int) ≤ t.getD v 0 ∧ t.getD v 0 ≤ 8 * k ∧ (s.getD v 0 - t.getD v 0) % q = 0
def stepS (F T : List Int) (q f : Int) (s : List Int) (k : Nat) : List Int :=
  (s.set (F.getD k 0).toNat (wrap64 (rd s (F.getD k 0) + f))).set (T.getD k 0).toNat (wrap64 (wrap64 (rd (s.set (F.getD k 0).toNat (wrap64 (rd s (F.getD k 0) + f))) (T.getD k 0) + q) - f))
theorem rel_step {q f : Int} (hq : q = 2 ∨ q = 3 ∨ q = 4) (hf : 1 ≤ f ∧ f ≤ 3) {k : Nat} (hk : k ≤ 8) {l s t : List Int} (hl : l.getD k 0 = f) (h1 : 0 ≤ F.getD k 0) (h2 : F.getD k 0 < V) (h3 : 0 ≤ T.getD k 0) (h4 : T.getD k 0 < V) (h : Rel V q k s t) : Rel V q (k + 1) (stepS F T q f s k) (stepI F T l t k) := by
  obtain ⟨hs, ht, hv⟩ := h
  unfold stepS stepI
  rw [hl]
  generalize F.getD k 0 = a at h1 h2 ⊢
  generalize T.getD k 0 = b at h3 h4 ⊢
  obtain ⟨A, rfl⟩ := Int.eq_ofNat_of_zero_le h1
  obtain ⟨B, rfl⟩ := Int.eq_ofNat_of_zero_le h3
  simp only [Int.toNat_natCast, rd_getD]
  refine ⟨by simp [hs], by simp [ht], fun v => ?_⟩
  have hA := hv A
  have hB := hv B
  have hvv := hv v
  have w1 : wrap64 (s.getD A 0 + f) = s.getD A 0 + f := wrap_in (by omega) (by omega)
  have w2 : wrap64 (t.getD A 0 + f) = t.getD A 0 + f := wrap_in (by omega) (by omega)
  rw [w1, w2, gset (by simp [hs]; omega), gset (by rw [hs]; omega), gset (by rw [hs]; omega), gset (by simp [ht]; omega), gset (by rw [ht]; omega), gset (by rw [ht]; omega)]
  generalize s.getD A 0 = sa at hA ⊢
  generalize s.getD B 0 = sb at hB ⊢
  generalize s.getD v 0 = sv at hvv ⊢
  generalize t.getD A 0 = ta at hA ⊢
  generalize t.getD B 0 = tb at hB ⊢
  generalize t.getD v 0 = tv at hvv ⊢
  have hq4 : 2 ≤ q ∧ q ≤ 4 := by omega
  generalize hyS : (if B = A then sa + f else sb) = yS
  generalize hyI : (if B = A then ta + f else tb) = yI
  have b1 : -(8 * k : Int) ≤ yS - f + f - 3 + 3 ∧ yS ≤ 8 * k + 3 ∧ -(8 * k : Int) ≤ yI + 0 ∧ yI ≤ 8 * k + 3 ∧ (yS - yI) % q = 0 := by
    by_cases e : B = A
    · rw [if_pos e] at hyS hyI
      refine ⟨by omega, by omega, by omega, by omega, ?_⟩
      rw [← hyS, ← hyI, show sa + f - (ta + f) = sa - ta by omega]; exact hA.2.2.2.2
    · rw [if_neg e] at hyS hyI
      refine ⟨by omega, by omega, by omega, by omega, ?_⟩
      rw [← hyS, ← hyI]; exact hB.2.2.2.2
  have w3 : wrap64 (wrap64 (yS + q) - f) = yS + q - f := by rw [wrap_in (n := yS + q) (by omega) (by omega)]; exact wrap_in (by omega) (by omega)
  have w4 : wrap64 (yI - f) = yI - f := wrap_in (by omega) (by omega)
  rw [w3, w4]
  by_cases e : v = B
  · rw [if_pos e, if_pos e]
    refine ⟨by omega, by omega, by omega, by omega, ?_⟩
    rw [show yS + q - f - (yI - f) = yS - yI + q by omega, Int.add_emod_right]; exact b1.2.2.2.2
  · rw [if_neg e, if_neg e]
    by_cases e2 : v = A
    · rw [if_pos e2, if_pos e2]
      subst e2
      refine ⟨by omega, by omega, by omega, by omega, ?_⟩
      rw [show sa + f - (ta + f) = sa - ta by omega]; exact hA.2.2.2.2
    · rw [if_neg e2, if_neg e2]
      exact ⟨by omega, by omega, by omega, by omega, hvv.2.2.2.2⟩
theorem test_rel {q : Int} {k : Nat} {s t : List Int} (h : Rel V q k s t) : testI q s = testI q t := by
  obtain ⟨hs, ht, hv⟩ := h
  unfold testI
  rw [hs, ht]
  congr 1
  funext v
  rw [Bool.eq_iff_iff, decide_eq_true_eq, decide_eq_true_eq]
  have hd : q ∣ s.getD v 0 - t.getD v 0 := Int.dvd_of_emod_eq_zero (hv v).2.2.2.2
  constructor
  · intro h
    have h1 := Int.dvd_of_tmod_eq_zero h
    exact Int.tmod_eq_zero_of_dvd (by have := Int.dvd_sub h1 hd; rwa [show s.getD v 0 - (s.getD v 0 - t.getD v 0) = t.getD v 0 by omega] at this)
  · intro h
    have h1 := Int.dvd_of_tmod_eq_zero h
    exact Int.tmod_eq_zero_of_dvd (by have := Int.dvd_add hd h1; rwa [show s.getD v 0 - t.getD v 0 + t.getD v 0 = s.getD v 0 by omega] at this)
theorem flow_s (hV : V ≤ 6) (hQ0 : 0 < Q) (hQ : Q ≤ 3) (hE : F.length = T.length) (hp : ∀ i, i < F.length → (0 ≤ F.getD i 0 ∧ F.getD i 0 < V ∧ 0 ≤ T.getD i 0 ∧ T.getD i 0 < V)) (hF : F.length ≤ 8) {n : Nat} (hn : n < 65536) :
    Ev (fun k => spec_l14Flow.f k V F T ((Q : Int) + 1) n) (flowP V ((Q : Int) + 1) F T (dig Q F.length n)) := by
  unfold spec_l14Flow.f
  simp only [show (0 : Int) ≤ (V : Int) by omega, if_true, Int.toNat_natCast, if_pos (show V ≤ 35184372088832 by omega)]
  have hw : wrap64 ((Q : Int) + 1 - 1) = (Q : Int) := by rw [wrap_in (by omega) (by omega)]; omega
  generalize hl : ((dig Q F.length n).map fun x => x + 1) = l
  have hlg : ∀ i, i < F.length → l.getD i 0 = 1 + ((n / Q ^ i % Q : Nat) : Int) := fun i hi => by
    have h1 := dig_get Q F.length i n hi
    have h2 := dig_length Q F.length n
    rw [← hl, List.getD_eq_getElem?_getD, List.getElem?_map]
    rw [List.getD_eq_getElem?_getD] at h1
    rw [List.getElem?_eq_getElem (by omega)] at h1 ⊢
    simp only [Option.getD_some, Option.map_some] at h1 ⊢
    rw [h1]; omega
  have key := loop_reach (fun k (st : List Int × Int) i => spec_l14Flow.l0 k ((Q : Int) + 1) st.2 st.1 i V F T) F.length (fun st i => (stepS F T ((Q : Int) + 1) (1 + ((n / Q ^ i % Q : Nat) : Int)) st.1 i, ((n / Q ^ (i + 1) : Nat) : Int)))
    (fun i st => st.2 = ((n / Q ^ i : Nat) : Int) ∧ Rel V ((Q : Int) + 1) i st.1 ((List.range' 0 i).foldl (stepI F T l) (List.replicate V 0)))
    (fun i st hi hs => by
      obtain ⟨h1, h2, h3, h4⟩ := hp i hi
      have hm : n / Q ^ i % Q < Q := Nat.mod_lt _ hQ0
      have hle : n / Q ^ i ≤ n := Nat.div_le_self _ _
      refine ⟨⟨rfl, ?_⟩, fun r hr => ?_⟩
      · have hcat : List.range' 0 (i + 1) = List.range' 0 i ++ [i] := by rw [List.range'_concat]; simp
        rw [hcat, List.foldl_append, List.foldl_cons, List.foldl_nil]
        exact rel_step (by omega) ⟨by omega, by omega⟩ (by omega) (hlg i hi) h1 h2 h3 h4 hs.2
      · have e1 : Int.tmod ((n / Q ^ i : Nat) : Int) (Q : Int) = ((n / Q ^ i % Q : Nat) : Int) := by rw [Int.tmod_eq_emod_of_nonneg (Int.natCast_nonneg _)]; simp
        have e2 : wrap64 (1 + ((n / Q ^ i % Q : Nat) : Int)) = 1 + ((n / Q ^ i % Q : Nat) : Int) := wrap_in (by omega) (by omega)
        have e3 : wrap64 (Int.tdiv ((n / Q ^ i : Nat) : Int) (Q : Int)) = ((n / Q ^ (i + 1) : Nat) : Int) := by
          have hle2 : n / Q ^ i / Q ≤ n / Q ^ i := Nat.div_le_self _ _
          rw [Nat.pow_succ, ← Nat.div_div_eq_div_mul]
          generalize n / Q ^ i = m at hle hle2 ⊢
          rw [Int.tdiv_eq_ediv_of_nonneg (Int.natCast_nonneg _), show ((m : Int) / (Q : Int)) = ((m / Q : Nat) : Int) by simp]
          generalize m / Q = m2 at hle2 ⊢
          exact wrap_in (by omega) (by omega)
        simp only [spec_l14Flow.l0, show ((i : Int) < (F.length : Int)) by omega, if_true, hw, if_neg (show ¬ ((Q : Int) = 0) by omega), show (0 : Int) ≤ (i : Int) by omega, show ((i : Int) < (T.length : Int)) by omega, rd_getD F, rd_getD T, h1, h3, hs.2.1, h2, h4, Option.bind_some, hs.1, e1, e2, e3, wrap_succ (show i < 9223372036854775807 by omega)]
        exact hr) (List.replicate V 0, (n : Int)) ⟨by simp, by simp, by simp, fun v => by
          have e : (List.replicate V (0 : Int)).getD v 0 = 0 := by
            rw [List.getD_eq_getElem?_getD, List.getElem?_replicate]; split <;> rfl
          simp only [List.range'_zero, List.foldl_nil, e]
          simp⟩
  refine key.2 _ (Ev.succ ?_)
  have hr := key.1.2
  generalize (List.range F.length).foldl (fun (st : List Int × Int) i => (stepS F T ((Q : Int) + 1) (1 + ((n / Q ^ i % Q : Nat) : Int)) st.1 i, ((n / Q ^ (i + 1) : Nat) : Int))) (List.replicate V 0, (n : Int)) = st at hr ⊢
  simp only [spec_l14Flow.l0, show ¬ ((F.length : Int) < (F.length : Int)) by omega, if_false]
  unfold flowP
  rw [hl, ← test_rel hr]
  unfold testI
  rw [hr.1]
  exact loop_all0 (fun k i => spec_l14Flow.l1 k ((Q : Int) + 1) st.1 i V F T) V (fun v => decide (Int.tmod (st.1.getD v 0) ((Q : Int) + 1) = 0))
    (fun k => by simp only [spec_l14Flow.l1, show ¬ ((V : Int) < (V : Int)) by omega, if_false])
    (fun i hi k => by
      simp only [spec_l14Flow.l1, hr.1, show ((i : Int) < (V : Int)) by omega, show (0 : Int) ≤ (i : Int) by omega, if_true, if_neg (show ¬ ((Q : Int) + 1 = 0) by omega), rd_getD, decide_eq_true_eq, wrap_succ (show i < 9223372036854775807 by omega)])
theorem flows_s (hV : V ≤ 6) (hQ0 : 0 < Q) (hQ : Q ≤ 3) (hE : F.length = T.length) (hp : ∀ i, i < F.length → (0 ≤ F.getD i 0 ∧ F.getD i 0 < V ∧ 0 ≤ T.getD i 0 ∧ T.getD i 0 < V)) (hF : F.length ≤ 8) :
    Ev (fun k => spec_Flows.l0 k ((Q : Int) + 1) 0 ((Q ^ F.length : Nat) : Int) 0 V F T) ((cn (flowP V ((Q : Int) + 1) F T) Q F.length [] : Nat) : Int) := by
  have hb := pow_small (show Q ≤ 4 by omega) hF
  rw [cn_dig']
  generalize hf : (fun n => if flowP V ((Q : Int) + 1) F T (dig Q F.length n) = true then 1 else 0) = f
  have hf1 : ∀ x, f x ≤ 1 := fun x => by rw [← hf]; simp only; split <;> omega
  have key := loop_reach (fun k acc n => spec_Flows.l0 k ((Q : Int) + 1) acc ((Q ^ F.length : Nat) : Int) n V F T) (Q ^ F.length) (fun acc n => wrap64 (acc + ((f n : Nat) : Int))) (fun n acc => acc = ((sm f n : Nat) : Int))
    (fun n acc hn ha => ⟨by
      have h1 := sm_le f 1 n fun x _ => hf1 x
      have h2 := hf1 n
      rw [ha, wrap_in (by omega) (by omega), sm]; omega, fun r hr => by
      simp only [spec_Flows.l0, show ((n : Int) < ((Q ^ F.length : Nat) : Int)) by omega, if_true]
      refine Ev.bind (flow_s hV hQ0 hQ hE hp hF (show n < 65536 by omega)) ?_
      have hbit : spec_l1Bit.f (flowP V ((Q : Int) + 1) F T (dig Q F.length n)) = some ((f n : Nat) : Int) := by
        unfold spec_l1Bit.f
        rw [← hf]
        show _ = some (((if flowP V ((Q : Int) + 1) F T (dig Q F.length n) = true then 1 else 0 : Nat)) : Int)
        cases flowP V ((Q : Int) + 1) F T (dig Q F.length n) <;> rfl
      rw [hbit]
      simp only [Option.bind_some, wrap_succ (show n < 9223372036854775807 by omega)]
      exact hr⟩) 0 (by simp [sm])
  refine key.2 _ (Ev.succ ?_)
  rw [key.1]
  simp only [spec_Flows.l0, show ¬ (((Q ^ F.length : Nat) : Int) < ((Q ^ F.length : Nat) : Int)) by omega, if_false]
  exact Ev.now _
end
def floI (v : Int) (F T : List Int) (q : Int) : Int := if isGraph v F T && decide (1 ≤ q ∧ q ≤ 4) then ((cn (flowP v.toNat q F T) (q - 1).toNat F.length [] : Nat) : Int) else -1
theorem Flows_i (v : Int) (F T : List Int) (q : Int) : Ev (fun k => impl_Flows.f k v F T q) (floI v F T q) := by
  unfold impl_Flows.f floI
  refine Ev.bind (IsGraph_i v F T) ?_
  cases h : isGraph v F T
  · simp only [Bool.false_eq_true, if_false, Bool.false_and]; exact Ev.now _
  obtain ⟨V, rfl, hV, hF, hE, hp⟩ := graph_parts h
  simp only [if_true, Bool.true_and, decide_eq_true_eq]
  by_cases c1 : q < 1
  · simp only [if_pos c1, if_neg (show ¬ (1 ≤ q ∧ q ≤ 4) by omega)]; exact Ev.now _
  by_cases c2 : q > 4
  · simp only [if_neg c1, if_pos c2, if_neg (show ¬ (1 ≤ q ∧ q ≤ 4) by omega)]; exact Ev.now _
  obtain ⟨Q, rfl⟩ : ∃ Q : Nat, q = (Q : Int) + 1 := ⟨(q - 1).toNat, by omega⟩
  simp only [if_neg c1, if_neg c2, if_pos (show (1 : Int) ≤ (Q : Int) + 1 ∧ (Q : Int) + 1 ≤ 4 by omega), Int.toNat_natCast]
  rw [show wrap64 ((Q : Int) + 1 - 1) = (Q : Int) by rw [wrap_in (by omega) (by omega)]; omega, show ((Q : Int) + 1 - 1).toNat = Q by omega]
  exact flows_i hV (by omega) hE hp hF
theorem Flows_s (v : Int) (F T : List Int) (q : Int) : Ev (fun k => spec_Flows.f k v F T q) (floI v F T q) := by
  unfold spec_Flows.f floI
  refine Ev.bind (IsGraph_s v F T) ?_
  cases h : isGraph v F T
  · simp only [Bool.false_eq_true, if_false, Bool.false_and]
    refine Ev.succ ?_
    simp only [spec_Flows.j0, if_true]; exact Ev.now _
  obtain ⟨V, rfl, hV, hF, hE, hp⟩ := graph_parts h
  simp only [if_true, Bool.true_and, l1In, Option.bind_some]
  refine Ev.succ ?_
  simp only [spec_Flows.j0]
  by_cases c : 1 ≤ q ∧ q ≤ 4
  · rw [decide_eq_true c]
    obtain ⟨Q, rfl⟩ : ∃ Q : Nat, q = (Q : Int) + 1 := ⟨(q - 1).toNat, by omega⟩
    simp only [Bool.not_true, Bool.false_eq_true, if_false, if_true, Int.toNat_natCast]
    rw [show wrap64 ((Q : Int) + 1 - 1) = (Q : Int) by rw [wrap_in (by omega) (by omega)]; omega, show ((Q : Int) + 1 - 1).toNat = Q by omega]
    by_cases h0 : Q = 0
    · subst h0
      simp only [show (((0 : Nat) : Int) + 1 = 1) by omega, if_true]
      unfold spec_l1Bit.f
      by_cases hl : F.length = 0
      · rw [hl, show cn (flowP V 1 F T) 0 0 [] = 1 by
          rw [cn, if_pos]
          unfold flowP testI
          rw [hl]
          simp only [List.range'_zero, List.foldl_nil, List.length_replicate, List.all_eq_true, decide_eq_true_eq]
          intro v _
          exact Int.tmod_one _]
        simp; exact Ev.now _
      · obtain ⟨m, hm⟩ : ∃ m, F.length = m + 1 := ⟨F.length - 1, by omega⟩
        rw [hm, cn, sm]
        simp only [show (((m + 1 : Nat) : Int) == 0) = false by simp; omega, Bool.false_eq_true, if_false, Option.bind_some]
        exact Ev.now _
    · simp only [if_neg (show ¬ ((Q : Int) + 1 = 1) by omega)]
      exact Ev.bind (power_s (by omega) hF) (flows_s hV (by omega) (by omega) hE hp hF)
  · rw [decide_eq_false c]
    simp only [Bool.not_false, if_true, Bool.false_eq_true, if_false]; exact Ev.now _
end Go.Proofs.Ytopkfhnnapncgaa.L
end
section
namespace Go.Proofs.Ytopkfhnnapncgaa.Pure
open Go.RowKit Go.Proofs.Ytopkfhnnapncgaa.F Go.Proofs.Ytopkfhnnapncgaa.L Go.Proofs.YtopkfhnnapncgaaW.PrintWords Go.Proofs.YtopkfhnnapncgaaW.PrintLast Go.Proofs.YtopkfhnnapncgaaW.PrintMore
theorem FnExactFlows (v : Int) (a b : List Int) (s : Int) (_ : (Lit.int .i64 v).wf = true) (ha : a.length * 8 ≤ 140737488351232) (_ : ∀ x ∈ a, (Lit.int .i64 x).wf = true) (hb : b.length * 8 ≤ 140737488351232) (_ : ∀ x ∈ b, (Lit.int .i64 x).wf = true) (_ : (Lit.int .i64 s).wf = true) :
    ∃ k, laws_FnExactFlows.f k v a b s = some true := by
  have ha' : a.length ≤ 17592186044416 := by omega
  have hb' : b.length ≤ 17592186044416 := by omega
  refine Ev.rounds ?_
  unfold laws_FnExactFlows.f
  obtain ⟨n, hn, _⟩ := szGraph v a b ha' hb'
  simp only [hn, Option.bind_some]
  by_cases h : n < 0
  · simp only [h, if_true]; exact Ev.now _
  simp only [h, if_false]
  refine Ev.bind (toGraph v a b ha' hb') (Ev.bind (Flows_s v a b s) (Ev.bind (toGraph v a b ha' hb') (Ev.bind (Flows_i v a b s) ?_)))
  simp only [if_true]
  refine Ev.bind (toGraph v a b ha' hb') (Ev.bind (eqGraph v a b ha' hb') ?_)
  simp only [if_true]
  exact Ev.now _
end Go.Proofs.Ytopkfhnnapncgaa.Pure
end
section
namespace Go.Proofs.Ytopkfhnnapncgaa.fnExactFlows
open Go.ChangeShapes Go.WideShapes Go.ChangeAt Go.RowKit Go.Joins
open Go.ChangeMaps (open_string shut_string)
set_option linter.unusedVariables false
set_option maxRecDepth 100000 in
theorem lifted (os : Os) (started : os.Started) (H : Type) (enc : TypeId × Value → H) :
    ReturnsInHanded {} Try.checked os 7 .any (Rows.fnExactFlowsSpec.pre6 enc Try.prog Try.f7 Rows.fnExactFlowsRow.domain false) (Rows.fnExactFlowsSpec.post enc Try.prog Try.f7 false true false false) := by
  refine returnsInHanded_of_change_sized (C := Try.checked) Open.own started (by kernel_rfl) Try.func7
    (ChangeSpec.witness6 (enc := enc) (C := Try.checked) false ⟨#[], #[.agg #[.int .i64 0, .slice none 0 0, .slice none 0 0], .int .i64 0], []⟩ 8 (by kernel_rfl) (by kernel_rfl) (by kernel_rfl) (by kernel_rfl)) ?_
  intro W base args ds gs before hval0 hW hcnd hsz0 _
  have hsz : (DataW.weightsEach Try.prog (Try.f7.params.toList ++ Rows.fnExactFlowsSpec.plain.varTypes Try.prog) (ds ++ gs)).all (· ≤ reachBytes) = true := hsz0
  have hval : ∀ (j : Nat) t v, Try.f7.params[j]? = some t → args[j]? = some v → Value.okWide Try.prog W .any base t v := hval0
  have hW' := hW
  obtain ⟨p, q, hA0, hV, rfl, hfz, hnd⟩ := hW
  have hA : DataW.TrodAll enc Try.prog W 0 (fun _ => true) true Try.f7.params.toList args.toList ds p := hA0
  rw [Try.params7] at hA hval hsz
  obtain ⟨v0, vs0, d0, ds0, p0, q0, hargs, rfl, rfl, h0, r0⟩ := trodAll_cons hA
  obtain ⟨v1, vs1, d1, ds1, p1, q1, rfl, rfl, rfl, h1, r1⟩ := trodAll_cons r0
  obtain ⟨rfl, rfl, rfl⟩ := trodAll_nil r1
  obtain rfl : args = #[v0, v1] := by cases args; simp_all
  obtain ⟨rfl, rfl⟩ := trodVars_none hV
  have k0 := h0
  have lt0 : ∀ x ∈ p0, x.block < W.heap.size := by obtain ⟨m, hm⟩ := k0; exact DataW.trod_lt m _ _ _ hm
  obtain ⟨v0_0, v0_1, v0_2, y0_0, y0_1, y0_2, fuel0, rfl, hd0, hp0, t0_0, t0_1, t0_2⟩ := open_agg3 Try.underlying31 (by kernel_rfl) (by kernel_rfl) (hval 0 31 v0 rfl rfl) h0
  have z0 : (DataW.weightsEach Try.prog [3, 22, 22] [y0_0.1, y0_1.1, y0_2.1]).all (· ≤ reachBytes) = true := Open.sized_agg hsz (j := 0) (t := 31) rfl (congrArg some hd0) Try.underlying31
  obtain ⟨a0_0, e0_0, _, w0_0⟩ := DataW.trod_int Try.underlying3 t0_0
  obtain rfl : v0_0 = _ := (List.cons.inj e0_0).1
  obtain ⟨A0_1, c0_1, l0_1, rfl, hr0_1, hc0_1, hn0_1, hw0_1⟩ := Open.open_row (j := 1) Try.underlying22 Try.underlying3 (by kernel_rfl) (by kernel_rfl) z0 rfl rfl t0_1
  obtain ⟨A0_2, c0_2, l0_2, rfl, hr0_2, hc0_2, hn0_2, hw0_2⟩ := Open.open_row (j := 2) Try.underlying22 Try.underlying3 (by kernel_rfl) (by kernel_rfl) z0 rfl rfl t0_2
  obtain ⟨a1, rfl, rfl, rfl, w1⟩ := open_int Try.underlying3 (hval 1 3 v1 rfl rfl) h1
  obtain ⟨k, h⟩ := Pure.FnExactFlows a0_0 l0_1 l0_2 a1 w0_0 hn0_1 hw0_1 hn0_2 hw0_2 w1
  refine (F.laws_FnExactFlows.calls (w := W) (hr0_1 := hr0_1) (hc0_1 := hc0_1) (hr0_2 := hr0_2) (hc0_2 := hc0_2) (h := h)).mono ?_
  rintro e W' ⟨he, hd⟩
  have bel : Below W.heap.size W W' := by first | exact hd | exact hd.below
  subst he
  exact ⟨_, rfl, _, _, _, [], _, [], hW', trodAll_mk1 (shut_bool Try.underlying4 _), (trodAll_cons_mk (Below.trod Open.laidOut (by kernel_rfl) (of_decide_eq_true (by kernel_rfl)) k0 bel lt0) (trodAll_cons_mk (shut_int Try.underlying3 w1) trodAll_mk0)), rfl, bel.frame _, fun h => by cases h⟩
theorem over : Rows.fnExactFlowsRow.holds Try.pinned (OpenSpec.ofChange Rows.fnExactFlowsSpec) :=
  OpenClaim.holds_of_wide 7 Try.f7 rfl rfl rfl rfl rfl rfl rfl ⟨rfl, rfl, rfl, rfl, rfl⟩ rfl rfl rfl rfl rfl (by kernel_rfl) Try.func7 (by kernel_rfl)
    (of_decide_eq_true (by kernel_rfl)) (by unfold Func.isWrapper; first | (rw [if_pos (by decide +kernel)]; kernel_rfl) | (rw [if_neg (by decide +kernel)]; exact ⟨rfl, rfl⟩))
    (fun os started H enc _ => lifted os started H enc)
theorem proved : Rows.FnExactFlowsSaid := over
end Go.Proofs.Ytopkfhnnapncgaa.fnExactFlows
namespace Go.Proofs.Ytopkfhnnapncgaa
/-- The row, under a short name, for the claim. -/
theorem fnExactFlows_holds : Rows.FnExactFlowsSaid := fnExactFlows.proved
#print axioms fnExactFlows_holds
end Go.Proofs.Ytopkfhnnapncgaa
end
