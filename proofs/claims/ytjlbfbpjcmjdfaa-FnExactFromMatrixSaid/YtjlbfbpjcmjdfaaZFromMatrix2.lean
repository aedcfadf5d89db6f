/- Several texts of this session in one: Fx2, GvFunc, GvState, GvFirstFailure, Fx3, Laid, Base, LSort, GvSort, GvMaximalSets, Fx6. Conditions: as each theorem says. -/
import Derived.Test.YtjlbfbpjcmjdfaaZFromMatrix0
import Derived.Test.YtjlbfbpjcmjdfaaZFromMatrix1
import Derived.Shelf.Abstract
import Derived.Shelf.Small.Bits
import Derived.Shelf.Strconv.Itoa0
import Derived.Shelf.Sort.Plain
import Derived.Shelf.Slices.Turned
import Derived.Ground.Names2Prog
import Derived.Shelf.Slices.CompactI
import Derived.Shelf.Slices.SearchI
import Derived.Shelf.Slices.Cells
import Derived.Shelf.Slices.In.SortNone
import Derived.Test.YtjlbfbpjcmjdfaaProg
import Derived.Lib.SlicesCompact
import Derived.Lib.RowBridge
import Derived.Sort.OwnSortedInts
import Derived.Lib.OwnBridge
set_option maxHeartbeats 8000000
set_option maxRecDepth 100000
section
namespace Go.Proofs.Ytjlbfbpjcmjdfaa.F
open Go.RowKit Go.Proofs.YtjlbfbpjcmjdfaaW.PrintWords Go.Proofs.YtjlbfbpjcmjdfaaW.PrintLast Go.Proofs.YtjlbfbpjcmjdfaaW.PrintMore
attribute [local go_sem] j9 j8 vO vV jO jP vl j6   -- for this text's walks alone
set_option linter.unusedVariables false
set_option linter.unusedSimpArgs false

def qd.l0 : Nat → List Int → Int → Int → Option (Bool)
 | 0, _, _, _ => none
 | k + 1, x5, x6, x7 => if x7 < x6 then (if 0 ≤ x7 then (if x7 < (x5.length : Int) then ((z1.f (rd x5 x7)).bind fun t164 => (if t164 = true then (qd.l0 k x5 x6 (wrap64 (x7 + 1))) else (some false))) else (none)) else (none)) else (some true)
def qd.f (k : Nat) (l0 : List Int) : Option (Bool) := qd.l0 k l0 (l0.length : Int) 0
theorem qd.calls (k : Nat) (A0 : Option Addr) (c0 : Nat) (l0 : List Int) (r : Bool) (w : World) (hr0 : Kd.C (Kd.int .i64) w A0 l0.length l0) (hc0 : l0.length ≤ c0) (h : qd.f k l0 = some r) :
  Calls Try.prog 43 #[.slice A0 l0.length c0] w fun e w' => e = .returned (.bool r) ∧ zi w w' := by
 have HR0 := Aside0.mk hr0
 have HC0 := Aside0.mk hc0
 clear hr0 hc0
 have H : (qd.l0 k l0 (l0.length : Int) 0) = some r := h
 clear h
 have H' := Aside0.mk H
 clear H
 go_enter Try.func43, Try.ntmps43
 go_wp2
 go_loopg [7] k (fun kq v7 w' => ∃ (x7_1 : Int), v7 = .int .i64 x7_1 ∧ Aside0 (qd.l0 kq l0 (l0.length : Int) x7_1 = some r) ∧ Aside0 (kq ≤ k) ∧ zi w w')
 case atStart => exact ⟨(0), (sqD), H', ⟨Nat.le_refl _⟩, by repeat (first | exact zi.refl _ | apply zi.step)⟩
 case round =>
  clear H'
  obtain ⟨x7_1, rfl, HA, HK1, ⟨m1, rfl⟩⟩ := hrel
  cases gk with
  | zero => exact absurd HA.out (by simp [qd.l0])
  | succ k1 =>
   have H := HA.out
   clear HA
   simp only [qd.l0] at H
   by_cases c2 : x7_1 < (l0.length : Int)
   ·rw [if_pos c2] at H
    have c2b0 : decide (x7_1 < (l0.length : Int)) = true := decide_eq_true c2
    clear c2
    by_cases c3 : 0 ≤ x7_1
    ·rw [if_pos c3] at H
     have c3b0 : decide (0 ≤ x7_1) = true := decide_eq_true c3
     clear c3
     by_cases c4 : x7_1 < (l0.length : Int)
     ·rw [if_pos c4] at H
      have c4b0 : decide (x7_1 < (l0.length : Int)) = true := decide_eq_true c4
      clear c4
      replace H := Option.bind_eq_some_iff.mp H
      obtain ⟨t164, A50, H⟩ := H
      replace H : (if t164 = true then (qd.l0 k1 l0 (l0.length : Int) (wrap64 (x7_1 + 1))) else (some false)) = some r := H
      have A5 := Aside0.mk A50
      clear A50
      by_cases c6 : t164 = true
      ·subst c6
       have H1 : (qd.l0 k1 l0 (l0.length : Int) (wrap64 (x7_1 + 1))) = some r := by rw [if_pos rfl] at H; exact H
       clear H
       have H := H1
       clear H1
       have H' := Aside0.mk H
       clear H
       have p163 : 0 ≤ (x7_1 : Int) := of_decide_eq_true sqA
       have q163 : x7_1 < (l0.length : Int) := of_decide_eq_true sqA
       obtain ⟨ad163, e163, hx163_0⟩ := Kd.qm HR0.out x7_1 p163 q163
       cases e163
       replace p163 := eq_true p163
       replace q163 := eq_true q163
       go_wp2_with (first | ((with_reducible refine zf (f := 39) rfl ?_); refine zu (some 12) rfl rfl Try.func39 (by kernel_rfl) rfl #[.int .i64 (rd l0 x7_1)] rfl sqM ?_; (with_reducible refine (z1.calls (rd l0 x7_1) true _ A5.out).mono ?_); rintro e w' ⟨rfl, ⟨nd, rfl⟩⟩; refine ⟨_, rfl, ?_⟩))
       go_roundg k1
       case measure => have := HK1.out; omega
       case rel => exact ⟨(wrap64 (x7_1 + 1)), (sqD), H', ⟨by have := HK1.out; omega⟩, by repeat (first | exact zi.refl _ | apply zi.step)⟩
      ·replace c6 := Bool.eq_false_iff.mpr c6
       subst c6
       have H1 : (some false) = some r := by rw [if_neg (show ¬ (false = true) by decide)] at H; exact H
       clear H
       have H := H1
       clear H1
       obtain rfl := Option.some.inj H
       have p163 : 0 ≤ (x7_1 : Int) := of_decide_eq_true sqA
       have q163 : x7_1 < (l0.length : Int) := of_decide_eq_true sqA
       obtain ⟨ad163, e163, hx163_0⟩ := Kd.qm HR0.out x7_1 p163 q163
       cases e163
       replace p163 := eq_true p163
       replace q163 := eq_true q163
       go_wp2_with (first | ((with_reducible refine zf (f := 39) rfl ?_); refine zu (some 12) rfl rfl Try.func39 (by kernel_rfl) rfl #[.int .i64 (rd l0 x7_1)] rfl sqM ?_; (with_reducible refine (z1.calls (rd l0 x7_1) false _ A5.out).mono ?_); rintro e w' ⟨rfl, ⟨nd, rfl⟩⟩; refine ⟨_, rfl, ?_⟩))
       go_ret
       exact ⟨sqD, by repeat (first | exact zi.refl _ | apply zi.step)⟩
     ·rw [if_neg c4] at H
      exact absurd H (by simp)
    ·rw [if_neg c3] at H
     exact absurd H (by simp)
   ·rw [if_neg c2] at H
    have c2b0 : decide (x7_1 < (l0.length : Int)) = false := decide_eq_false c2
    clear c2
    obtain rfl := Option.some.inj H
    go_wp2
    go_ret
    exact ⟨sqD, by repeat (first | exact zi.refl _ | apply zi.step)⟩

def jC.f (a0 : Int) (a1 : Int) : Option (Bool) := (z1.f a0).bind fun t165 => (if t165 = true then ((z1.f a1).bind fun t166 => (if t166 = true then (some ((Go.bits .andNot .i64 a0 a1) == 0)) else (some false))) else (some false))
theorem jC.calls (a0 : Int) (a1 : Int) (r : Bool) (w : World) (h : jC.f a0 a1 = some r) :
  Calls Try.prog 47 #[.int .i64 a0, .int .i64 a1] w fun e w' => e = .returned (.bool r) ∧ zi w w' := by
 have H : ((z1.f a0).bind fun t165 => (if t165 = true then ((z1.f a1).bind fun t166 => (if t166 = true then (some ((Go.bits .andNot .i64 a0 a1) == 0)) else (some false))) else (some false))) = some r := h
 clear h
 replace H := Option.bind_eq_some_iff.mp H
 obtain ⟨t165, A30, H⟩ := H
 replace H : (if t165 = true then ((z1.f a1).bind fun t166 => (if t166 = true then (some ((Go.bits .andNot .i64 a0 a1) == 0)) else (some false))) else (some false)) = some r := H
 have A3 := Aside0.mk A30
 clear A30
 by_cases c4 : t165 = true
 ·subst c4
  have H1 : ((z1.f a1).bind fun t166 => (if t166 = true then (some ((Go.bits .andNot .i64 a0 a1) == 0)) else (some false))) = some r := by rw [if_pos rfl] at H; exact H
  clear H
  have H := H1
  clear H1
  replace H := Option.bind_eq_some_iff.mp H
  obtain ⟨t166, A50, H⟩ := H
  replace H : (if t166 = true then (some ((Go.bits .andNot .i64 a0 a1) == 0)) else (some false)) = some r := H
  have A5 := Aside0.mk A50
  clear A50
  by_cases c6 : t166 = true
  ·subst c6
   have H1 : (some ((Go.bits .andNot .i64 a0 a1) == 0)) = some r := by rw [if_pos rfl] at H; exact H
   clear H
   have H := H1
   clear H1
   obtain rfl := Option.some.inj H
   go_enter Try.func47, Try.ntmps47
   go_wp2_with (first | ((with_reducible refine zf (f := 39) rfl ?_); refine zu (some 6) rfl rfl Try.func39 (by kernel_rfl) rfl #[.int .i64 a0] rfl sqM ?_; (with_reducible refine (z1.calls a0 true _ A3.out).mono ?_); rintro e w' ⟨rfl, ⟨nd, rfl⟩⟩; refine ⟨_, rfl, ?_⟩) | (go_at_call 39; (try simp only [zk, zm]); (with_reducible refine (z1.calls a1 true _ A5.out).mono ?_); rintro e w' ⟨rfl, ⟨nd, rfl⟩⟩))
   go_ret
   exact ⟨sqD, by repeat (first | exact zi.refl _ | apply zi.step)⟩
  ·replace c6 := Bool.eq_false_iff.mpr c6
   subst c6
   have H1 : (some false) = some r := by rw [if_neg (show ¬ (false = true) by decide)] at H; exact H
   clear H
   have H := H1
   clear H1
   obtain rfl := Option.some.inj H
   go_enter Try.func47, Try.ntmps47
   go_wp2_with (first | ((with_reducible refine zf (f := 39) rfl ?_); refine zu (some 6) rfl rfl Try.func39 (by kernel_rfl) rfl #[.int .i64 a0] rfl sqM ?_; (with_reducible refine (z1.calls a0 true _ A3.out).mono ?_); rintro e w' ⟨rfl, ⟨nd, rfl⟩⟩; refine ⟨_, rfl, ?_⟩) | (go_at_call 39; (try simp only [zk, zm]); (with_reducible refine (z1.calls a1 false _ A5.out).mono ?_); rintro e w' ⟨rfl, ⟨nd, rfl⟩⟩))
   go_ret
   exact ⟨sqD, by repeat (first | exact zi.refl _ | apply zi.step)⟩
 ·replace c4 := Bool.eq_false_iff.mpr c4
  subst c4
  have H1 : (some false) = some r := by rw [if_neg (show ¬ (false = true) by decide)] at H; exact H
  clear H
  have H := H1
  clear H1
  obtain rfl := Option.some.inj H
  go_enter Try.func47, Try.ntmps47
  go_wp2_with (first | ((with_reducible refine zf (f := 39) rfl ?_); refine zu (some 6) rfl rfl Try.func39 (by kernel_rfl) rfl #[.int .i64 a0] rfl sqM ?_; (with_reducible refine (z1.calls a0 false _ A3.out).mono ?_); rintro e w' ⟨rfl, ⟨nd, rfl⟩⟩; refine ⟨_, rfl, ?_⟩))
  go_ret
  exact ⟨sqD, by repeat (first | exact zi.refl _ | apply zi.step)⟩

def qN.f (a0 : Int) (a1 : Int) : Option (Bool) := (zQ.f a0).bind fun t167 => (if t167 = true then (if a1 ≥ 0 then (if 0 ≤ a0 then (some (decide (a1 < (shl .i64 1 a0)))) else (none)) else (some false)) else (some false))
theorem qN.calls (a0 : Int) (a1 : Int) (r : Bool) (w : World) (h : qN.f a0 a1 = some r) :
  Calls Try.prog 36 #[.int .i64 a0, .int .i64 a1] w fun e w' => e = .returned (.bool r) ∧ zi w w' := by
 have H : ((zQ.f a0).bind fun t167 => (if t167 = true then (if a1 ≥ 0 then (if 0 ≤ a0 then (some (decide (a1 < (shl .i64 1 a0)))) else (none)) else (some false)) else (some false))) = some r := h
 clear h
 replace H := Option.bind_eq_some_iff.mp H
 obtain ⟨t167, A30, H⟩ := H
 replace H : (if t167 = true then (if a1 ≥ 0 then (if 0 ≤ a0 then (some (decide (a1 < (shl .i64 1 a0)))) else (none)) else (some false)) else (some false)) = some r := H
 have A3 := Aside0.mk A30
 clear A30
 by_cases c4 : t167 = true
 ·subst c4
  have H1 : (if a1 ≥ 0 then (if 0 ≤ a0 then (some (decide (a1 < (shl .i64 1 a0)))) else (none)) else (some false)) = some r := by rw [if_pos rfl] at H; exact H
  clear H
  have H := H1
  clear H1
  by_cases c5 : a1 ≥ 0
  ·rw [if_pos c5] at H
   have c5b0 : decide (0 ≤ a1) = true := decide_eq_true c5
   clear c5
   by_cases c6 : 0 ≤ a0
   ·rw [if_pos c6] at H
    have c6b0 := eq_true c6
    have c6b1 : decide (0 ≤ a0) = true := decide_eq_true c6
    clear c6
    obtain ⟨ji7, hji7⟩ : ∃ j_ : Int, (shl .i64 1 a0) = j_ := ⟨_, rfl⟩
    replace H : (some (decide (a1 < (ji7)))) = some r := by first | (rw [hji7] at H; exact H) | (simp only [hji7] at H ⊢; exact H)
    (try rw [hji7] at A3)
    have hji7_ : (IntKind.i64.wrap (1 * 2 ^ min a0.toNat 64)) = ji7 := hji7
    have hji7z : a0 ≤ 64 → (IntKind.i64.wrap (1 * 2 ^ a0.toNat)) = ji7 := Zf hji7
    have hji7u : (IntKind.i64.wrap (2 ^ min a0.toNat 64)) = ji7 := by have h_ := hji7_; rw [Int.one_mul] at h_; exact h_
    have hji7v : a0 ≤ 64 → (IntKind.i64.wrap (2 ^ a0.toNat)) = ji7 := fun hle_ => by have h_ := hji7z hle_; rw [Int.one_mul] at h_; exact h_
    have hji7y : (wrap64 (1 * 2 ^ min a0.toNat 64)) = ji7 := (zk _).symm.trans hji7_
    have hji7x : a0 ≤ 64 → (wrap64 (1 * 2 ^ a0.toNat)) = ji7 := fun h_ => (zk _).symm.trans (hji7z h_)
    obtain rfl := Option.some.inj H
    go_enter Try.func36, Try.ntmps36
    go_wp2_with (first | ((with_reducible refine zf (f := 32) rfl ?_); refine zu (some 6) rfl rfl Try.func32 (by kernel_rfl) rfl #[.int .i64 a0] rfl sqM ?_; (with_reducible refine (zQ.calls a0 true _ A3.out).mono ?_); rintro e w' ⟨rfl, ⟨nd, rfl⟩⟩; refine ⟨_, rfl, ?_⟩))
    go_ret
    exact ⟨by first | rfl | (simp; done) | (simp only [← hji7] <;> (first | rfl | simp)) | (simp [*]; done), by repeat (first | exact zi.refl _ | apply zi.step)⟩
   ·rw [if_neg c6] at H
    exact absurd H (by simp)
  ·rw [if_neg c5] at H
   have c5b0 : decide (0 ≤ a1) = false := decide_eq_false c5
   clear c5
   obtain rfl := Option.some.inj H
   go_enter Try.func36, Try.ntmps36
   go_wp2_with (first | ((with_reducible refine zf (f := 32) rfl ?_); refine zu (some 6) rfl rfl Try.func32 (by kernel_rfl) rfl #[.int .i64 a0] rfl sqM ?_; (with_reducible refine (zQ.calls a0 true _ A3.out).mono ?_); rintro e w' ⟨rfl, ⟨nd, rfl⟩⟩; refine ⟨_, rfl, ?_⟩))
   go_ret
   exact ⟨sqD, by repeat (first | exact zi.refl _ | apply zi.step)⟩
 ·replace c4 := Bool.eq_false_iff.mpr c4
  subst c4
  have H1 : (some false) = some r := by rw [if_neg (show ¬ (false = true) by decide)] at H; exact H
  clear H
  have H := H1
  clear H1
  obtain rfl := Option.some.inj H
  go_enter Try.func36, Try.ntmps36
  go_wp2_with (first | ((with_reducible refine zf (f := 32) rfl ?_); refine zu (some 6) rfl rfl Try.func32 (by kernel_rfl) rfl #[.int .i64 a0] rfl sqM ?_; (with_reducible refine (zQ.calls a0 false _ A3.out).mono ?_); rintro e w' ⟨rfl, ⟨nd, rfl⟩⟩; refine ⟨_, rfl, ?_⟩))
  go_ret
  exact ⟨sqD, by repeat (first | exact zi.refl _ | apply zi.step)⟩

def zK.l0 : Nat → Int → List Int → List Int → Int → Int → Option (Bool)
 | 0, _, _, _, _, _ => none
 | k + 1, x0, x1, x7, x8, x9 => if x9 < x8 then (if 0 ≤ x9 then (if x9 < (x7.length : Int) then ((qN.f x0 (rd x7 x9)).bind fun t169 => (if t169 = true then (if x9 > 0 then (if 0 ≤ (wrap64 (x9 - 1)) then (if (wrap64 (x9 - 1)) < (x1.length : Int) then (if (rd x7 x9) ≤ (rd x1 (wrap64 (x9 - 1))) then (some false) else (zK.l0 k x0 x1 x7 x8 (wrap64 (x9 + 1)))) else (none)) else (none)) else (zK.l0 k x0 x1 x7 x8 (wrap64 (x9 + 1)))) else (some false))) else (none)) else (none)) else ((zQ.f x0).bind fun t171 => (some t171))
def zK.f (k : Nat) (a0 : Int) (l1 : List Int) : Option (Bool) := zK.l0 k a0 l1 l1 (l1.length : Int) 0
theorem zK.calls (k : Nat) (a0 : Int) (A1 : Option Addr) (c1 : Nat) (l1 : List Int) (r : Bool) (w : World) (hr1 : Kd.C (Kd.int .i64) w A1 l1.length l1) (hc1 : l1.length ≤ c1) (h : zK.f k a0 l1 = some r) :
  Calls Try.prog 49 #[.int .i64 a0, .slice A1 l1.length c1] w fun e w' => e = .returned (.bool r) ∧ zi w w' := by
 have HR1 := Aside0.mk hr1
 have HC1 := Aside0.mk hc1
 clear hr1 hc1
 have H : (zK.l0 k a0 l1 l1 (l1.length : Int) 0) = some r := h
 clear h
 have H' := Aside0.mk H
 clear H
 go_enter Try.func49, Try.ntmps49
 go_wp2
 go_loopg [9] k (fun kq v9 w' => ∃ (x9_1 : Int), v9 = .int .i64 x9_1 ∧ Aside0 (zK.l0 kq a0 l1 l1 (l1.length : Int) x9_1 = some r) ∧ Aside0 (kq ≤ k) ∧ zi w w')
 case atStart => exact ⟨(0), (sqD), H', ⟨Nat.le_refl _⟩, by repeat (first | exact zi.refl _ | apply zi.step)⟩
 case round =>
  clear H'
  try clear c1
  try clear p2
  obtain ⟨x9_1, rfl, HA, HK1, ⟨m1, rfl⟩⟩ := hrel
  cases gk with
  | zero => exact absurd HA.out (by simp [zK.l0])
  | succ k1 =>
   have H := HA.out
   clear HA
   simp only [zK.l0] at H
   by_cases c3 : x9_1 < (l1.length : Int)
   ·rw [if_pos c3] at H
    have c3b0 : decide (x9_1 < (l1.length : Int)) = true := decide_eq_true c3
    clear c3
    by_cases c4 : 0 ≤ x9_1
    ·rw [if_pos c4] at H
     have c4b0 : decide (0 ≤ x9_1) = true := decide_eq_true c4
     clear c4
     by_cases c5 : x9_1 < (l1.length : Int)
     ·rw [if_pos c5] at H
      have c5b0 : decide (x9_1 < (l1.length : Int)) = true := decide_eq_true c5
      clear c5
      replace H := Option.bind_eq_some_iff.mp H
      obtain ⟨t169, A60, H⟩ := H
      replace H : (if t169 = true then (if x9_1 > 0 then (if 0 ≤ (wrap64 (x9_1 - 1)) then (if (wrap64 (x9_1 - 1)) < (l1.length : Int) then (if (rd l1 x9_1) ≤ (rd l1 (wrap64 (x9_1 - 1))) then (some false) else (zK.l0 k1 a0 l1 l1 (l1.length : Int) (wrap64 (x9_1 + 1)))) else (none)) else (none)) else (zK.l0 k1 a0 l1 l1 (l1.length : Int) (wrap64 (x9_1 + 1)))) else (some false)) = some r := H
      have A6 := Aside0.mk A60
      clear A60
      by_cases c7 : t169 = true
      ·subst c7
       have H1 : (if x9_1 > 0 then (if 0 ≤ (wrap64 (x9_1 - 1)) then (if (wrap64 (x9_1 - 1)) < (l1.length : Int) then (if (rd l1 x9_1) ≤ (rd l1 (wrap64 (x9_1 - 1))) then (some false) else (zK.l0 k1 a0 l1 l1 (l1.length : Int) (wrap64 (x9_1 + 1)))) else (none)) else (none)) else (zK.l0 k1 a0 l1 l1 (l1.length : Int) (wrap64 (x9_1 + 1)))) = some r := by rw [if_pos rfl] at H; exact H
       clear H
       have H := H1
       clear H1
       by_cases c8 : x9_1 > 0
       ·rw [if_pos c8] at H
        have c8b0 : decide (0 < x9_1) = true := decide_eq_true c8
        clear c8
        obtain ⟨ji9, hji9⟩ : ∃ j_ : Int, (wrap64 (x9_1 - 1)) = j_ := ⟨_, rfl⟩
        replace H : (if 0 ≤ (ji9) then (if (ji9) < (l1.length : Int) then (if (rd l1 x9_1) ≤ (rd l1 (ji9)) then (some false) else (zK.l0 k1 a0 l1 l1 (l1.length : Int) (wrap64 (x9_1 + 1)))) else (none)) else (none)) = some r := by first | (rw [hji9] at H; exact H) | (simp only [hji9] at H ⊢; exact H)
        (try rw [hji9] at A6)
        have hji9w : (IntKind.i64.wrap (x9_1 - 1)) = ji9 := (zk _).trans hji9
        by_cases c10 : 0 ≤ (ji9)
        ·rw [if_pos c10] at H
         have c10b0 : decide (0 ≤ (ji9)) = true := decide_eq_true c10
         clear c10
         by_cases c11 : (ji9) < (l1.length : Int)
         ·rw [if_pos c11] at H
          have c11b0 : decide ((ji9) < (l1.length : Int)) = true := decide_eq_true c11
          clear c11
          by_cases c12 : (rd l1 x9_1) ≤ (rd l1 (ji9))
          ·rw [if_pos c12] at H
           have c12b0 : decide ((rd l1 x9_1) ≤ (rd l1 (ji9))) = true := decide_eq_true c12
           clear c12
           obtain rfl := Option.some.inj H
           have p168 : 0 ≤ (x9_1 : Int) := of_decide_eq_true sqA
           have q168 : x9_1 < (l1.length : Int) := of_decide_eq_true sqA
           obtain ⟨ad168, e168, hx168_0⟩ := Kd.qm HR1.out x9_1 p168 q168
           cases e168
           replace p168 := eq_true p168
           replace q168 := eq_true q168
           go_wp2_with (first | ((with_reducible refine zf (f := 36) rfl ?_); refine zu (some 16) rfl rfl Try.func36 (by kernel_rfl) rfl #[.int .i64 a0, .int .i64 (rd l1 x9_1)] rfl sqM ?_; (with_reducible refine (qN.calls a0 (rd l1 x9_1) true _ A6.out).mono ?_); rintro e w' ⟨rfl, ⟨nd, rfl⟩⟩; refine ⟨_, rfl, ?_⟩; have p170 : 0 ≤ ((ji9) : Int) := of_decide_eq_true sqA; have q170 : (ji9) < (l1.length : Int) := of_decide_eq_true sqA; obtain ⟨ad170, e170, hx170_0⟩ := Kd.qm HR1.out (ji9) p170 q170; obtain rfl : ad168 = ad170 := (by injection e170); replace p170 := eq_true p170; replace q170 := eq_true q170))
           go_ret
           exact ⟨by first | rfl | (simp; done) | (simp only [← hji9] <;> (first | rfl | simp)) | (simp [*]; done), by repeat (first | exact zi.refl _ | apply zi.step)⟩
          ·rw [if_neg c12] at H
           have c12b0 : decide ((rd l1 x9_1) ≤ (rd l1 (ji9))) = false := decide_eq_false c12
           clear c12
           have H' := Aside0.mk H
           clear H
           have p168 : 0 ≤ (x9_1 : Int) := of_decide_eq_true sqA
           have q168 : x9_1 < (l1.length : Int) := of_decide_eq_true sqA
           obtain ⟨ad168, e168, hx168_0⟩ := Kd.qm HR1.out x9_1 p168 q168
           cases e168
           replace p168 := eq_true p168
           replace q168 := eq_true q168
           go_wp2_with (first | ((with_reducible refine zf (f := 36) rfl ?_); refine zu (some 16) rfl rfl Try.func36 (by kernel_rfl) rfl #[.int .i64 a0, .int .i64 (rd l1 x9_1)] rfl sqM ?_; (with_reducible refine (qN.calls a0 (rd l1 x9_1) true _ A6.out).mono ?_); rintro e w' ⟨rfl, ⟨nd, rfl⟩⟩; refine ⟨_, rfl, ?_⟩; have p170 : 0 ≤ ((ji9) : Int) := of_decide_eq_true sqA; have q170 : (ji9) < (l1.length : Int) := of_decide_eq_true sqA; obtain ⟨ad170, e170, hx170_0⟩ := Kd.qm HR1.out (ji9) p170 q170; obtain rfl : ad168 = ad170 := (by injection e170); replace p170 := eq_true p170; replace q170 := eq_true q170))
           go_roundg k1
           case measure => have := HK1.out; omega
           case rel => exact ⟨(wrap64 (x9_1 + 1)), (sqD), H', ⟨by have := HK1.out; omega⟩, by repeat (first | exact zi.refl _ | apply zi.step)⟩
         ·rw [if_neg c11] at H
          exact absurd H (by simp)
        ·rw [if_neg c10] at H
         exact absurd H (by simp)
       ·rw [if_neg c8] at H
        have c8b0 : decide (0 < x9_1) = false := decide_eq_false c8
        clear c8
        have H' := Aside0.mk H
        clear H
        have p168 : 0 ≤ (x9_1 : Int) := of_decide_eq_true sqA
        have q168 : x9_1 < (l1.length : Int) := of_decide_eq_true sqA
        obtain ⟨ad168, e168, hx168_0⟩ := Kd.qm HR1.out x9_1 p168 q168
        cases e168
        replace p168 := eq_true p168
        replace q168 := eq_true q168
        go_wp2_with (first | ((with_reducible refine zf (f := 36) rfl ?_); refine zu (some 16) rfl rfl Try.func36 (by kernel_rfl) rfl #[.int .i64 a0, .int .i64 (rd l1 x9_1)] rfl sqM ?_; (with_reducible refine (qN.calls a0 (rd l1 x9_1) true _ A6.out).mono ?_); rintro e w' ⟨rfl, ⟨nd, rfl⟩⟩; refine ⟨_, rfl, ?_⟩))
        go_roundg k1
        case measure => have := HK1.out; omega
        case rel => exact ⟨(wrap64 (x9_1 + 1)), (sqD), H', ⟨by have := HK1.out; omega⟩, by repeat (first | exact zi.refl _ | apply zi.step)⟩
      ·replace c7 := Bool.eq_false_iff.mpr c7
       subst c7
       have H1 : (some false) = some r := by rw [if_neg (show ¬ (false = true) by decide)] at H; exact H
       clear H
       have H := H1
       clear H1
       obtain rfl := Option.some.inj H
       have p168 : 0 ≤ (x9_1 : Int) := of_decide_eq_true sqA
       have q168 : x9_1 < (l1.length : Int) := of_decide_eq_true sqA
       obtain ⟨ad168, e168, hx168_0⟩ := Kd.qm HR1.out x9_1 p168 q168
       cases e168
       replace p168 := eq_true p168
       replace q168 := eq_true q168
       go_wp2_with (first | ((with_reducible refine zf (f := 36) rfl ?_); refine zu (some 16) rfl rfl Try.func36 (by kernel_rfl) rfl #[.int .i64 a0, .int .i64 (rd l1 x9_1)] rfl sqM ?_; (with_reducible refine (qN.calls a0 (rd l1 x9_1) false _ A6.out).mono ?_); rintro e w' ⟨rfl, ⟨nd, rfl⟩⟩; refine ⟨_, rfl, ?_⟩))
       go_ret
       exact ⟨sqD, by repeat (first | exact zi.refl _ | apply zi.step)⟩
     ·rw [if_neg c5] at H
      exact absurd H (by simp)
    ·rw [if_neg c4] at H
     exact absurd H (by simp)
   ·rw [if_neg c3] at H
    have c3b0 : decide (x9_1 < (l1.length : Int)) = false := decide_eq_false c3
    clear c3
    replace H := Option.bind_eq_some_iff.mp H
    obtain ⟨t171, A130, H⟩ := H
    replace H : (some t171) = some r := H
    have A13 := Aside0.mk A130
    clear A130
    obtain rfl := Option.some.inj H
    go_wp2_with (first | ((with_reducible refine zf (f := 32) rfl ?_); refine zu (some 33) rfl rfl Try.func32 (by kernel_rfl) rfl #[.int .i64 a0] rfl sqM ?_; (with_reducible refine (zQ.calls a0 t171 _ A13.out).mono ?_); rintro e w' ⟨rfl, ⟨nd, rfl⟩⟩; refine ⟨_, rfl, ?_⟩))
    go_ret
    exact ⟨sqD, by repeat (first | exact zi.refl _ | apply zi.step)⟩

def q6.f (a0 : Int) (a1 : Int) : Option (Bool) := (z1.f a0).bind fun t172 => (if t172 = true then (if a1 ≥ 0 then (if a1 < 8 then (if 0 ≤ a1 then (some ((Go.bits .and .i64 (shr .i64 a0 a1) 1) == 1)) else (none)) else (some false)) else (some false)) else (some false))
theorem q6.calls (a0 : Int) (a1 : Int) (r : Bool) (w : World) (h : q6.f a0 a1 = some r) :
  Calls Try.prog 60 #[.int .i64 a0, .int .i64 a1] w fun e w' => e = .returned (.bool r) ∧ zi w w' := by
 have H : ((z1.f a0).bind fun t172 => (if t172 = true then (if a1 ≥ 0 then (if a1 < 8 then (if 0 ≤ a1 then (some ((Go.bits .and .i64 (shr .i64 a0 a1) 1) == 1)) else (none)) else (some false)) else (some false)) else (some false))) = some r := h
 clear h
 replace H := Option.bind_eq_some_iff.mp H
 obtain ⟨t172, A30, H⟩ := H
 replace H : (if t172 = true then (if a1 ≥ 0 then (if a1 < 8 then (if 0 ≤ a1 then (some ((Go.bits .and .i64 (shr .i64 a0 a1) 1) == 1)) else (none)) else (some false)) else (some false)) else (some false)) = some r := H
 have A3 := Aside0.mk A30
 clear A30
 by_cases c4 : t172 = true
 ·subst c4
  have H1 : (if a1 ≥ 0 then (if a1 < 8 then (if 0 ≤ a1 then (some ((Go.bits .and .i64 (shr .i64 a0 a1) 1) == 1)) else (none)) else (some false)) else (some false)) = some r := by rw [if_pos rfl] at H; exact H
  clear H
  have H := H1
  clear H1
  by_cases c5 : a1 ≥ 0
  ·rw [if_pos c5] at H
   have c5b0 : decide (0 ≤ a1) = true := decide_eq_true c5
   clear c5
   by_cases c6 : a1 < 8
   ·rw [if_pos c6] at H
    have c6b0 : decide (a1 < 8) = true := decide_eq_true c6
    clear c6
    by_cases c7 : 0 ≤ a1
    ·rw [if_pos c7] at H
     have c7b0 := eq_true c7
     have c7b1 : decide (0 ≤ a1) = true := decide_eq_true c7
     clear c7
     obtain ⟨ji8, hji8⟩ : ∃ j_ : Int, (shr .i64 a0 a1) = j_ := ⟨_, rfl⟩
     replace H : (some ((Go.bits .and .i64 (ji8) 1) == 1)) = some r := by first | (rw [hji8] at H; exact H) | (simp only [hji8] at H ⊢; exact H)
     (try rw [hji8] at A3)
     have hji8_ : (a0 / 2 ^ min a1.toNat 64) = ji8 := hji8
     have hji8z : a1 ≤ 64 → (a0 / 2 ^ a1.toNat) = ji8 := JL hji8
     obtain rfl := Option.some.inj H
     go_enter Try.func60, Try.ntmps60
     go_wp2_with (first | ((with_reducible refine zf (f := 39) rfl ?_); refine zu (some 6) rfl rfl Try.func39 (by kernel_rfl) rfl #[.int .i64 a0] rfl sqM ?_; (with_reducible refine (z1.calls a0 true _ A3.out).mono ?_); rintro e w' ⟨rfl, ⟨nd, rfl⟩⟩; refine ⟨_, rfl, ?_⟩))
     go_ret
     exact ⟨by first | rfl | (simp; done) | (simp only [← hji8] <;> (first | rfl | simp)) | (simp [*]; done), by repeat (first | exact zi.refl _ | apply zi.step)⟩
    ·rw [if_neg c7] at H
     exact absurd H (by simp)
   ·rw [if_neg c6] at H
    have c6b0 : decide (a1 < 8) = false := decide_eq_false c6
    clear c6
    obtain rfl := Option.some.inj H
    go_enter Try.func60, Try.ntmps60
    go_wp2_with (first | ((with_reducible refine zf (f := 39) rfl ?_); refine zu (some 6) rfl rfl Try.func39 (by kernel_rfl) rfl #[.int .i64 a0] rfl sqM ?_; (with_reducible refine (z1.calls a0 true _ A3.out).mono ?_); rintro e w' ⟨rfl, ⟨nd, rfl⟩⟩; refine ⟨_, rfl, ?_⟩))
    go_ret
    exact ⟨sqD, by repeat (first | exact zi.refl _ | apply zi.step)⟩
  ·rw [if_neg c5] at H
   have c5b0 : decide (0 ≤ a1) = false := decide_eq_false c5
   clear c5
   obtain rfl := Option.some.inj H
   go_enter Try.func60, Try.ntmps60
   go_wp2_with (first | ((with_reducible refine zf (f := 39) rfl ?_); refine zu (some 6) rfl rfl Try.func39 (by kernel_rfl) rfl #[.int .i64 a0] rfl sqM ?_; (with_reducible refine (z1.calls a0 true _ A3.out).mono ?_); rintro e w' ⟨rfl, ⟨nd, rfl⟩⟩; refine ⟨_, rfl, ?_⟩))
   go_ret
   exact ⟨sqD, by repeat (first | exact zi.refl _ | apply zi.step)⟩
 ·replace c4 := Bool.eq_false_iff.mpr c4
  subst c4
  have H1 : (some false) = some r := by rw [if_neg (show ¬ (false = true) by decide)] at H; exact H
  clear H
  have H := H1
  clear H1
  obtain rfl := Option.some.inj H
  go_enter Try.func60, Try.ntmps60
  go_wp2_with (first | ((with_reducible refine zf (f := 39) rfl ?_); refine zu (some 6) rfl rfl Try.func39 (by kernel_rfl) rfl #[.int .i64 a0] rfl sqM ?_; (with_reducible refine (z1.calls a0 false _ A3.out).mono ?_); rintro e w' ⟨rfl, ⟨nd, rfl⟩⟩; refine ⟨_, rfl, ?_⟩))
  go_ret
  exact ⟨sqD, by repeat (first | exact zi.refl _ | apply zi.step)⟩

def zA.l0 : Nat → Int → List Int → Int → Option (List Int)
 | 0, _, _, _ => none
 | k + 1, x0, x3, x4 => if x4 < 8 then ((q6.f x0 x4).bind fun t176 => (if t176 = true then (if x3.length < 17592186044416 then (zA.l0 k x0 (x3 ++ [x4]) (wrap64 (x4 + 1))) else (none)) else (zA.l0 k x0 x3 (wrap64 (x4 + 1))))) else (some x3)
def zA.f (k : Nat) (a0 : Int) : Option (List Int) := zA.l0 k a0 (([] : List Int)) 0
theorem zA.calls (k : Nat) (a0 : Int) (r : List Int) (w : World) (h : zA.f k a0 = some r) :
  Calls Try.prog 51 #[.int .i64 a0] w fun e w' => ∃ v0_ : Value, e = .returned (v0_) ∧ Kd.R (Kd.int .i64) 3 w' w.heap.size (fun _ => True) v0_ r ∧ Below w.heap.size w w' := by
 have HB := Aside0.mk (Below.refl w.heap.size w)
 have H : (zA.l0 k a0 (([] : List Int)) 0) = some r := h
 clear h
 obtain ⟨y173, hy173⟩ : ∃ y_ : List Int, y_ = (([] : List Int)) := ⟨_, rfl⟩
 replace H : (zA.l0 k a0 y173 0) = some r := by first | (rw [hy173]; with_reducible exact H) | (have H2_ := (Option.bind_some _ _).symm.trans H; rw [hy173]; with_reducible exact H2_) | (have H2_ := (Option.bind_some _ _).symm.trans H; with_reducible exact H2_) | with_reducible exact H | (rw [hy173]; exact H) | exact H
 have Ny173 := Aside0.mk hy173
 clear hy173
 have H' := Aside0.mk H
 clear H
 go_enter Try.func51, Try.ntmps51
 go_wp2_with (first | ((with_reducible refine zq (N := 5) rfl ?_); refine Kd.yZ (Kd.int .i64) _ 3 ?hg (N := 5) ?hd (xs := ([] : List Int)) (inner := []) (ok := fun _ => True) (okp := fun _ => True) ?hr ?hp (fun _ hk => hk) trivial (Below.refl _ _) (Nat.le_refl _) (by simp) ?_; (case hd => rfl); (case hg => rfl); (case hr => exact sqG); (case hp => exact (qx.none _ _)); intro v174 w2 ho3 hb hg_ hnew_; clear hg_ hnew_; (first | rw [← Ny173.out] at ho3 | (simp only [Int.reduceToNat] at ho3; rw [← Ny173.out] at ho3)); have n0_ := Aside0.mk (Kd.qq ho3 (zB sqB)); have n1_ := Aside0.mk (ze sqB hb); clear HB; have HO175 := n0_; have HB := n1_; clear n0_ n1_; clear hb ho3))
 go_loopg [3, 4] k (fun kq v3 v4 w' => ∃ (x3_1 : List Int) (x4_1 : Int), v4 = .int .i64 x4_1 ∧ Aside0 (zA.l0 kq a0 x3_1 x4_1 = some r) ∧ Aside0 (kq ≤ k) ∧ Aside0 (Kd.R (Kd.int .i64) 3 w' w.heap.size (fun _ => True) v3 x3_1) ∧ Aside0 (Below w.heap.size w w'))
 case atStart => exact ⟨(y173), (0), (sqD), H', ⟨Nat.le_refl _⟩, ⟨sqR HO175.out⟩, ⟨sqB⟩⟩
 case round =>
  clear H'
  try clear p2
  obtain ⟨x3_1, x4_1, rfl, HA, HK1, HO_3, HB⟩ := hrel
  cases gk with
  | zero => exact absurd HA.out (by simp [zA.l0])
  | succ k1 =>
   have H := HA.out
   clear HA
   simp only [zA.l0] at H
   by_cases c4 : x4_1 < 8
   ·rw [if_pos c4] at H
    have c4b0 : decide (x4_1 < 8) = true := decide_eq_true c4
    clear c4
    replace H := Option.bind_eq_some_iff.mp H
    obtain ⟨t176, A50, H⟩ := H
    replace H : (if t176 = true then (if x3_1.length < 17592186044416 then (zA.l0 k1 a0 (x3_1 ++ [x4_1]) (wrap64 (x4_1 + 1))) else (none)) else (zA.l0 k1 a0 x3_1 (wrap64 (x4_1 + 1)))) = some r := H
    have A5 := Aside0.mk A50
    clear A50
    by_cases c6 : t176 = true
    ·subst c6
     have H1 : (if x3_1.length < 17592186044416 then (zA.l0 k1 a0 (x3_1 ++ [x4_1]) (wrap64 (x4_1 + 1))) else (none)) = some r := by rw [if_pos rfl] at H; exact H
     clear H
     have H := H1
     clear H1
     by_cases c7 : x3_1.length < 17592186044416
     ·rw [if_pos c7] at H
      have LMc7 := Aside0.mk c7
      clear c7
      obtain ⟨y177, hy177⟩ : ∃ y_ : List Int, y_ = (x3_1 ++ [x4_1]) := ⟨_, rfl⟩
      replace H : (zA.l0 k1 a0 y177 (wrap64 (x4_1 + 1))) = some r := by first | (rw [hy177]; with_reducible exact H) | (have H2_ := (Option.bind_some _ _).symm.trans H; rw [hy177]; with_reducible exact H2_) | (have H2_ := (Option.bind_some _ _).symm.trans H; with_reducible exact H2_) | with_reducible exact H | (rw [hy177]; exact H) | exact H
      have Ny177 := Aside0.mk hy177
      clear hy177
      have H' := Aside0.mk H
      clear H
      go_wp2_with (first | ((with_reducible refine zf (f := 60) rfl ?_); refine zu (some 12) rfl rfl Try.func60 (by kernel_rfl) rfl #[.int .i64 a0, .int .i64 x4_1] rfl sqM ?_; (with_reducible refine (q6.calls a0 x4_1 true _ A5.out).mono ?_); rintro e w' ⟨rfl, ⟨nd, rfl⟩⟩; refine ⟨_, rfl, ?_⟩) | ((with_reducible refine qT (b := .append) (xs := #[.tmp 13, .tmp 15]) rfl ?_); at_builtin; refine Kd.yC (Kd.int .i64) (w0 := w) w.heap.size rfl (.tmp 13) (.tmp 15) 22 3 (.int .i64 0) 8 rfl Try.underlying22 yT rfl (by decide) (by omega) u3 x3_1 x4_1 [.int .i64 x4_1] (fun _ => True) (fun _ => False) rfl rfl ?aP (fun _ hk => hk.elim) ?aF ?aO ?aB ?aS ?aL ?_; (case aP => exact rfl); (case aB => exact sqB); (case aF => exact (fun _ _ => trivial)); (case aO => exact (sqR HO_3.out)); (case aS => exact (zB sqB)); (case aL => have := LMc7.out; omega); intro v178 w8 ho hb hg hat; rw [← Ny177.out] at ho; have n0_ := Aside0.mk (hb); have n1_ := Aside0.mk (ho); clear HB; clear HO_3; have HB := n0_; have HO179 := n1_; clear n0_ n1_; clear ho hb hg hat))
      go_roundg k1
      case measure => have := HK1.out; omega
      case rel => exact ⟨(y177), (wrap64 (x4_1 + 1)), (sqD), H', ⟨by have := HK1.out; omega⟩, ⟨sqR HO179.out⟩, ⟨sqB⟩⟩
     ·rw [if_neg c7] at H
      exact absurd H (by simp)
    ·replace c6 := Bool.eq_false_iff.mpr c6
     subst c6
     have H1 : (zA.l0 k1 a0 x3_1 (wrap64 (x4_1 + 1))) = some r := by rw [if_neg (show ¬ (false = true) by decide)] at H; exact H
     clear H
     have H := H1
     clear H1
     have H' := Aside0.mk H
     clear H
     go_wp2_with (first | ((with_reducible refine zf (f := 60) rfl ?_); refine zu (some 12) rfl rfl Try.func60 (by kernel_rfl) rfl #[.int .i64 a0, .int .i64 x4_1] rfl sqM ?_; (with_reducible refine (q6.calls a0 x4_1 false _ A5.out).mono ?_); rintro e w' ⟨rfl, ⟨nd, rfl⟩⟩; refine ⟨_, rfl, ?_⟩))
     go_roundg k1
     case measure => have := HK1.out; omega
     case rel => exact ⟨(x3_1), (wrap64 (x4_1 + 1)), (sqD), H', ⟨by have := HK1.out; omega⟩, ⟨sqR HO_3.out⟩, ⟨sqB⟩⟩
   ·rw [if_neg c4] at H
    have c4b0 : decide (x4_1 < 8) = false := decide_eq_false c4
    clear c4
    obtain rfl := Option.some.inj H
    go_wp2
    go_ret
    exact ⟨_, sqE, sqR HO_3.out, sqB⟩

def zN.l0 : Nat → List Int → Int → Int → Int → Option (Int)
 | 0, _, _, _, _ => none
 | k + 1, x0, x1, x7, x8 => if x8 < x7 then (if 0 ≤ x8 then (if x8 < (x0.length : Int) then (if x1 = (rd x0 x8) then (some x8) else (zN.l0 k x0 x1 x7 (wrap64 (x8 + 1)))) else (none)) else (none)) else (some (-1))
def zN.f (k : Nat) (l0 : List Int) (a1 : Int) : Option (Int) := zN.l0 k l0 a1 (l0.length : Int) 0
theorem zN.calls (k : Nat) (A0 : Option Addr) (c0 : Nat) (l0 : List Int) (a1 : Int) (r : Int) (w : World) (hr0 : Kd.C (Kd.int .i64) w A0 l0.length l0) (hc0 : l0.length ≤ c0) (h : zN.f k l0 a1 = some r) :
  Calls Try.prog 75 #[.slice A0 l0.length c0, .int .i64 a1] w fun e w' => e = .returned (.int .i64 r) ∧ zi w w' := by
 have HR0 := Aside0.mk hr0
 have HC0 := Aside0.mk hc0
 clear hr0 hc0
 have H : (zN.l0 k l0 a1 (l0.length : Int) 0) = some r := h
 clear h
 have H' := Aside0.mk H
 clear H
 go_enter Try.func75, Try.ntmps75
 go_wp2
 go_loopg [8] k (fun kq v8 w' => ∃ (x8_1 : Int), v8 = .int .i64 x8_1 ∧ Aside0 (zN.l0 kq l0 a1 (l0.length : Int) x8_1 = some r) ∧ Aside0 (kq ≤ k) ∧ zi w w')
 case atStart => exact ⟨(0), (sqD), H', ⟨Nat.le_refl _⟩, by repeat (first | exact zi.refl _ | apply zi.step)⟩
 case round =>
  clear H'
  try clear p2
  obtain ⟨x8_1, rfl, HA, HK1, ⟨m1, rfl⟩⟩ := hrel
  cases gk with
  | zero => exact absurd HA.out (by simp [zN.l0])
  | succ k1 =>
   have H := HA.out
   clear HA
   simp only [zN.l0] at H
   by_cases c3 : x8_1 < (l0.length : Int)
   ·rw [if_pos c3] at H
    have c3b0 : decide (x8_1 < (l0.length : Int)) = true := decide_eq_true c3
    clear c3
    by_cases c4 : 0 ≤ x8_1
    ·rw [if_pos c4] at H
     have c4b0 : decide (0 ≤ x8_1) = true := decide_eq_true c4
     clear c4
     by_cases c5 : x8_1 < (l0.length : Int)
     ·rw [if_pos c5] at H
      have c5b0 : decide (x8_1 < (l0.length : Int)) = true := decide_eq_true c5
      clear c5
      by_cases c6 : a1 = (rd l0 x8_1)
      ·rw [if_pos c6] at H
       have c6b0 : (a1 == (rd l0 x8_1)) = true := beq_iff_eq.mpr c6
       have c6b1 : (a1 != (rd l0 x8_1)) = false := bne_eq_false_iff_eq.mpr c6
       clear c6
       obtain rfl := Option.some.inj H
       have p180 : 0 ≤ (x8_1 : Int) := of_decide_eq_true sqA
       have q180 : x8_1 < (l0.length : Int) := of_decide_eq_true sqA
       obtain ⟨ad180, e180, hx180_0⟩ := Kd.qm HR0.out x8_1 p180 q180
       cases e180
       replace p180 := eq_true p180
       replace q180 := eq_true q180
       go_wp2
       go_ret
       exact ⟨sqD, by repeat (first | exact zi.refl _ | apply zi.step)⟩
      ·rw [if_neg c6] at H
       have c6b0 : (a1 == (rd l0 x8_1)) = false := beq_eq_false_iff_ne.mpr c6
       have c6b1 : (a1 != (rd l0 x8_1)) = true := bne_iff_ne.mpr c6
       have H' := Aside0.mk H
       clear H
       have p180 : 0 ≤ (x8_1 : Int) := of_decide_eq_true sqA
       have q180 : x8_1 < (l0.length : Int) := of_decide_eq_true sqA
       obtain ⟨ad180, e180, hx180_0⟩ := Kd.qm HR0.out x8_1 p180 q180
       cases e180
       replace p180 := eq_true p180
       replace q180 := eq_true q180
       go_wp2
       go_roundg k1
       case measure => have := HK1.out; omega
       case rel => exact ⟨(wrap64 (x8_1 + 1)), (sqD), H', ⟨by have := HK1.out; omega⟩, by repeat (first | exact zi.refl _ | apply zi.step)⟩
     ·rw [if_neg c5] at H
      exact absurd H (by simp)
    ·rw [if_neg c4] at H
     exact absurd H (by simp)
   ·rw [if_neg c3] at H
    have c3b0 : decide (x8_1 < (l0.length : Int)) = false := decide_eq_false c3
    clear c3
    obtain rfl := Option.some.inj H
    go_wp2
    go_ret
    exact ⟨sqD, by repeat (first | exact zi.refl _ | apply zi.step)⟩

def qy.f (k : Nat) (l0 : List Int) (a1 : Int) : Option (Bool) := (zN.f k l0 a1).bind fun t181 => (some (decide (t181 ≥ 0)))
theorem qy.calls (k : Nat) (A0 : Option Addr) (c0 : Nat) (l0 : List Int) (a1 : Int) (r : Bool) (w : World) (hr0 : Kd.C (Kd.int .i64) w A0 l0.length l0) (hc0 : l0.length ≤ c0) (h : qy.f k l0 a1 = some r) :
  Calls Try.prog 63 #[.slice A0 l0.length c0, .int .i64 a1] w fun e w' => e = .returned (.bool r) ∧ zi w w' := by
 have HR0 := Aside0.mk hr0
 have HC0 := Aside0.mk hc0
 clear hr0 hc0
 have H : ((zN.f k l0 a1).bind fun t181 => (some (decide (t181 ≥ 0)))) = some r := h
 clear h
 replace H := Option.bind_eq_some_iff.mp H
 obtain ⟨t181, A30, H⟩ := H
 replace H : (some (decide (t181 ≥ 0))) = some r := H
 have A3 := Aside0.mk A30
 clear A30
 obtain rfl := Option.some.inj H
 go_enter Try.func63, Try.ntmps63
 go_wp2_with (first | ((with_reducible refine zf (f := 75) rfl ?_); refine zu (some 7) rfl rfl Try.func75 (by kernel_rfl) rfl #[.slice A0 l0.length c0, .int .i64 a1] rfl sqM ?_; (with_reducible refine (zN.calls k _ _ l0 a1 t181 _ ?side1 ?side2 A3.out).mono ?_); (case side1 => exact sqC HR0.out); (case side2 => exact HC0.out); rintro e w' ⟨rfl, ⟨nd, rfl⟩⟩; refine ⟨_, rfl, ?_⟩))
 go_ret
 exact ⟨sqD, by repeat (first | exact zi.refl _ | apply zi.step)⟩

def jZ.f (k : Nat) (l0 : List Int) (a1 : Int) : Option (Bool) := (qy.f k l0 a1).bind fun t182 => (some t182)
theorem jZ.calls (k : Nat) (A0 : Option Addr) (c0 : Nat) (l0 : List Int) (a1 : Int) (r : Bool) (w : World) (hr0 : Kd.C (Kd.int .i64) w A0 l0.length l0) (hc0 : l0.length ≤ c0) (h : jZ.f k l0 a1 = some r) :
  Calls Try.prog 59 #[.slice A0 l0.length c0, .int .i64 a1] w fun e w' => e = .returned (.bool r) ∧ zi w w' := by
 have HR0 := Aside0.mk hr0
 have HC0 := Aside0.mk hc0
 clear hr0 hc0
 have H : ((qy.f k l0 a1).bind fun t182 => (some t182)) = some r := h
 clear h
 replace H := Option.bind_eq_some_iff.mp H
 obtain ⟨t182, A30, H⟩ := H
 replace H : (some t182) = some r := H
 have A3 := Aside0.mk A30
 clear A30
 obtain rfl := Option.some.inj H
 go_enter Try.func59, Try.ntmps59
 go_wp2_with (first | ((with_reducible refine zf (f := 63) rfl ?_); refine zu (some 7) rfl rfl Try.func63 (by kernel_rfl) rfl #[.slice A0 l0.length c0, .int .i64 a1] rfl sqM ?_; (with_reducible refine (qy.calls k _ _ l0 a1 t182 _ ?side1 ?side2 A3.out).mono ?_); (case side1 => exact sqC HR0.out); (case side2 => exact HC0.out); rintro e w' ⟨rfl, ⟨nd, rfl⟩⟩; refine ⟨_, rfl, ?_⟩))
 go_ret
 exact ⟨sqD, by repeat (first | exact zi.refl _ | apply zi.step)⟩

def jm.f (a0 : Int) : Option (Int) := (zQ.f a0).bind fun t196 => (if t196 = true then (if 0 ≤ a0 then (some (wrap64 ((shl .i64 1 a0) - 1))) else (none)) else (some 0))
theorem jm.calls (a0 : Int) (r : Int) (w : World) (h : jm.f a0 = some r) :
  Calls Try.prog 35 #[.int .i64 a0] w fun e w' => e = .returned (.int .i64 r) ∧ zi w w' := by
 have H : ((zQ.f a0).bind fun t196 => (if t196 = true then (if 0 ≤ a0 then (some (wrap64 ((shl .i64 1 a0) - 1))) else (none)) else (some 0))) = some r := h
 clear h
 replace H := Option.bind_eq_some_iff.mp H
 obtain ⟨t196, A20, H⟩ := H
 replace H : (if t196 = true then (if 0 ≤ a0 then (some (wrap64 ((shl .i64 1 a0) - 1))) else (none)) else (some 0)) = some r := H
 have A2 := Aside0.mk A20
 clear A20
 by_cases c3 : t196 = true
 ·subst c3
  have H1 : (if 0 ≤ a0 then (some (wrap64 ((shl .i64 1 a0) - 1))) else (none)) = some r := by rw [if_pos rfl] at H; exact H
  clear H
  have H := H1
  clear H1
  by_cases c4 : 0 ≤ a0
  ·rw [if_pos c4] at H
   have c4b0 := eq_true c4
   have c4b1 : decide (0 ≤ a0) = true := decide_eq_true c4
   clear c4
   obtain ⟨ji5, hji5⟩ : ∃ j_ : Int, (shl .i64 1 a0) = j_ := ⟨_, rfl⟩
   replace H : (some (wrap64 ((ji5) - 1))) = some r := by first | (rw [hji5] at H; exact H) | (simp only [hji5] at H ⊢; exact H)
   (try rw [hji5] at A2)
   have hji5_ : (IntKind.i64.wrap (1 * 2 ^ min a0.toNat 64)) = ji5 := hji5
   have hji5z : a0 ≤ 64 → (IntKind.i64.wrap (1 * 2 ^ a0.toNat)) = ji5 := Zf hji5
   have hji5u : (IntKind.i64.wrap (2 ^ min a0.toNat 64)) = ji5 := by have h_ := hji5_; rw [Int.one_mul] at h_; exact h_
   have hji5v : a0 ≤ 64 → (IntKind.i64.wrap (2 ^ a0.toNat)) = ji5 := fun hle_ => by have h_ := hji5z hle_; rw [Int.one_mul] at h_; exact h_
   have hji5y : (wrap64 (1 * 2 ^ min a0.toNat 64)) = ji5 := (zk _).symm.trans hji5_
   have hji5x : a0 ≤ 64 → (wrap64 (1 * 2 ^ a0.toNat)) = ji5 := fun h_ => (zk _).symm.trans (hji5z h_)
   obtain rfl := Option.some.inj H
   go_enter Try.func35, Try.ntmps35
   go_wp2_with (first | ((with_reducible refine zf (f := 32) rfl ?_); refine zu (some 4) rfl rfl Try.func32 (by kernel_rfl) rfl #[.int .i64 a0] rfl sqM ?_; (with_reducible refine (zQ.calls a0 true _ A2.out).mono ?_); rintro e w' ⟨rfl, ⟨nd, rfl⟩⟩; refine ⟨_, rfl, ?_⟩))
   go_ret
   exact ⟨by first | rfl | (simp; done) | (simp only [← hji5] <;> (first | rfl | simp)) | (simp [*]; done), by repeat (first | exact zi.refl _ | apply zi.step)⟩
  ·rw [if_neg c4] at H
   exact absurd H (by simp)
 ·replace c3 := Bool.eq_false_iff.mpr c3
  subst c3
  have H1 : (some 0) = some r := by rw [if_neg (show ¬ (false = true) by decide)] at H; exact H
  clear H
  have H := H1
  clear H1
  obtain rfl := Option.some.inj H
  go_enter Try.func35, Try.ntmps35
  go_wp2_with (first | ((with_reducible refine zf (f := 32) rfl ?_); refine zu (some 4) rfl rfl Try.func32 (by kernel_rfl) rfl #[.int .i64 a0] rfl sqM ?_; (with_reducible refine (zQ.calls a0 false _ A2.out).mono ?_); rintro e w' ⟨rfl, ⟨nd, rfl⟩⟩; refine ⟨_, rfl, ?_⟩))
  go_ret
  exact ⟨sqD, by repeat (first | exact zi.refl _ | apply zi.step)⟩

mutual
def zp.j0 : Nat → Int → Int → Bool → Option (Int)
 | 0, _, _, _ => none
 | k + 1, x0, x1, x17 => if x17 = true then (some 0) else (zp.l0 k x0 x1 1)
def zp.l0 : Nat → Int → Int → Int → Option (Int)
 | 0, _, _, _ => none
 | k + 1, x0, x1, x5 => if x0 = 0 then (none) else (if (Int.tmod (wrap64 (x1 * x5)) x0) = 1 then (some x5) else (zp.l0 k x0 x1 (wrap64 (x5 + 1))))
end
def zp.f (k : Nat) (a0 : Int) (a1 : Int) : Option (Int) := (qu.f a0).bind fun t197 => (if t197 = true then (if a1 < 1 then (zp.j0 k a0 a1 true) else (zp.j0 k a0 a1 (decide (a1 ≥ a0)))) else (zp.j0 k a0 a1 true))
theorem zp.calls (k : Nat) (a0 : Int) (a1 : Int) (r : Int) (w : World) (h : zp.f k a0 a1 = some r) :
  Calls Try.prog 50 #[.int .i64 a0, .int .i64 a1] w fun e w' => e = .returned (.int .i64 r) ∧ zi w w' := by
 have H : ((qu.f a0).bind fun t197 => (if t197 = true then (if a1 < 1 then (zp.j0 k a0 a1 true) else (zp.j0 k a0 a1 (decide (a1 ≥ a0)))) else (zp.j0 k a0 a1 true))) = some r := h
 clear h
 have HC3 := Aside0.mk H
 clear H
 go_enter Try.func50, Try.ntmps50
 go_upto_region 1 with (fail)
 go_cut [17] (fun v17 wc => ∃ (kq : Nat) (x17_2 : Bool), v17 = .bool x17_2 ∧ Aside0 (zp.j0 kq a0 a1 x17_2 = some r) ∧ Aside0 (kq ≤ k) ∧ zi w wc)
 case first =>
  have H := HC3.out
  clear HC3
  replace H := Option.bind_eq_some_iff.mp H
  obtain ⟨t197, A40, H⟩ := H
  replace H : (if t197 = true then (if a1 < 1 then (zp.j0 k a0 a1 true) else (zp.j0 k a0 a1 (decide (a1 ≥ a0)))) else (zp.j0 k a0 a1 true)) = some r := H
  have A4 := Aside0.mk A40
  clear A40
  by_cases c5 : t197 = true
  ·subst c5
   have H1 : (if a1 < 1 then (zp.j0 k a0 a1 true) else (zp.j0 k a0 a1 (decide (a1 ≥ a0)))) = some r := by rw [if_pos rfl] at H; exact H
   clear H
   have H := H1
   clear H1
   by_cases c6 : a1 < 1
   ·rw [if_pos c6] at H
    have c6b0 : decide (a1 < 1) = true := decide_eq_true c6
    clear c6
    (first | rw [c6b0] | (simp only [zk, zm]; rw [c6b0]) | skip)
    have H' := Aside0.mk H
    clear H
    go_wp2_with (first | ((with_reducible refine zf (f := 31) rfl ?_); refine zu (some 7) rfl rfl Try.func31 (by kernel_rfl) rfl #[.int .i64 a0] rfl sqM ?_; (with_reducible refine (qu.calls a0 true _ A4.out).mono ?_); rintro e w' ⟨rfl, ⟨nd, rfl⟩⟩; refine ⟨_, rfl, ?_⟩))
    go_meet
    case rel => exact ⟨_, (true), (sqD), H', ⟨by first | omega | exact Nat.le_refl _⟩, by repeat (first | exact zi.refl _ | apply zi.step)⟩
   ·rw [if_neg c6] at H
    have c6b0 : decide (a1 < 1) = false := decide_eq_false c6
    clear c6
    (first | rw [c6b0] | (simp only [zk, zm]; rw [c6b0]) | skip)
    have H' := Aside0.mk H
    clear H
    go_wp2_with (first | ((with_reducible refine zf (f := 31) rfl ?_); refine zu (some 7) rfl rfl Try.func31 (by kernel_rfl) rfl #[.int .i64 a0] rfl sqM ?_; (with_reducible refine (qu.calls a0 true _ A4.out).mono ?_); rintro e w' ⟨rfl, ⟨nd, rfl⟩⟩; refine ⟨_, rfl, ?_⟩))
    go_meet
    case rel => exact ⟨_, (decide (a1 ≥ a0)), (sqD), H', ⟨by first | omega | exact Nat.le_refl _⟩, by repeat (first | exact zi.refl _ | apply zi.step)⟩
  ·replace c5 := Bool.eq_false_iff.mpr c5
   subst c5
   have H1 : (zp.j0 k a0 a1 true) = some r := by rw [if_neg (show ¬ (false = true) by decide)] at H; exact H
   clear H
   have H := H1
   clear H1
   have H' := Aside0.mk H
   clear H
   go_wp2_with (first | ((with_reducible refine zf (f := 31) rfl ?_); refine zu (some 7) rfl rfl Try.func31 (by kernel_rfl) rfl #[.int .i64 a0] rfl sqM ?_; (with_reducible refine (qu.calls a0 false _ A4.out).mono ?_); rintro e w' ⟨rfl, ⟨nd, rfl⟩⟩; refine ⟨_, rfl, ?_⟩))
   go_meet
   case rel => exact ⟨_, (true), (sqD), H', ⟨by first | omega | exact Nat.le_refl _⟩, by repeat (first | exact zi.refl _ | apply zi.step)⟩
 case rest =>
  clear HC3
  try clear p2
  try clear c3
  try clear c5
  try clear c6
  try clear c6b0
  obtain ⟨kq, x17_2, rfl, HA, HJ2, ⟨mc2, rfl⟩⟩ := hcut
  cases kq with
  | zero => exact absurd HA.out (by simp [zp.j0])
  | succ kj2 =>
   have H := HA.out
   clear HA
   simp only [zp.j0] at H
   by_cases c7 : x17_2 = true
   ·subst c7
    have H1 : (some 0) = some r := by rw [if_pos rfl] at H; exact H
    clear H
    have H := H1
    clear H1
    obtain rfl := Option.some.inj H
    go_wp2
    go_ret
    exact ⟨sqD, by repeat (first | exact zi.refl _ | apply zi.step)⟩
   ·replace c7 := Bool.eq_false_iff.mpr c7
    subst c7
    have H1 : (zp.l0 kj2 a0 a1 1) = some r := by rw [if_neg (show ¬ (false = true) by decide)] at H; exact H
    clear H
    have H := H1
    clear H1
    have H' := Aside0.mk H
    clear H
    go_wp2
    go_loopg [5] kj2 (fun kq v5 w' => ∃ (x5_2 : Int), v5 = .int .i64 x5_2 ∧ Aside0 (zp.l0 kq a0 a1 x5_2 = some r) ∧ Aside0 (kq ≤ kj2) ∧ zi w w')
    case atStart => exact ⟨(1), (sqD), H', ⟨Nat.le_refl _⟩, by repeat (first | exact zi.refl _ | apply zi.step)⟩
    case round =>
     clear H'
     try clear c2
     try clear p2
     try clear c3
     try clear c5
     try clear c6
     try clear c6b0
     try clear c7
     try clear p2
     obtain ⟨x5_2, rfl, HA, HK2, ⟨m2, rfl⟩⟩ := hrel
     cases gk with
     | zero => exact absurd HA.out (by simp [zp.l0])
     | succ k2 =>
      have H := HA.out
      clear HA
      simp only [zp.l0] at H
      by_cases c8 : a0 = 0
      ·rw [if_pos c8] at H
       exact absurd H (by simp)
      ·rw [if_neg c8] at H
       have c8b0 : (a0 == 0) = false := beq_eq_false_iff_ne.mpr c8
       have c8b1 : (a0 != 0) = true := bne_iff_ne.mpr c8
       by_cases c9 : (Int.tmod (wrap64 (a1 * x5_2)) a0) = 1
       ·rw [if_pos c9] at H
        have c9b0 : ((Int.tmod (wrap64 (a1 * x5_2)) a0) == 1) = true := beq_iff_eq.mpr c9
        have c9b1 : ((Int.tmod (wrap64 (a1 * x5_2)) a0) != 1) = false := bne_eq_false_iff_eq.mpr c9
        clear c9
        obtain rfl := Option.some.inj H
        go_wp2
        go_ret
        exact ⟨sqD, by repeat (first | exact zi.refl _ | apply zi.step)⟩
       ·rw [if_neg c9] at H
        have c9b0 : ((Int.tmod (wrap64 (a1 * x5_2)) a0) == 1) = false := beq_eq_false_iff_ne.mpr c9
        have c9b1 : ((Int.tmod (wrap64 (a1 * x5_2)) a0) != 1) = true := bne_iff_ne.mpr c9
        have H' := Aside0.mk H
        clear H
        go_wp2
        go_roundg k2
        case measure => have := HJ2.out; have := HK2.out; omega
        case rel => exact ⟨(wrap64 (x5_2 + 1)), (sqD), H', ⟨by have := HJ2.out; have := HK2.out; omega⟩, by repeat (first | exact zi.refl _ | apply zi.step)⟩

def jG.f (a0_0 : Int) (a0_1 : Int) (a0_2 : Int) (l0_3 : List Int) (a1 : Int) (a2 : Int) : Option (Int) := if 0 ≤ (wrap64 ((wrap64 (a1 * a0_2)) + a2)) then (if (wrap64 ((wrap64 (a1 * a0_2)) + a2)) < (l0_3.length : Int) then (some (rd l0_3 (wrap64 ((wrap64 (a1 * a0_2)) + a2)))) else (none)) else (none)
theorem jG.calls (a0_0 : Int) (a0_1 : Int) (a0_2 : Int) (A0_3 : Option Addr) (c0_3 : Nat) (l0_3 : List Int) (a1 : Int) (a2 : Int) (r : Int) (w : World) (hr0_3 : Kd.C (Kd.int .i64) w A0_3 l0_3.length l0_3) (hc0_3 : l0_3.length ≤ c0_3) (h : jG.f a0_0 a0_1 a0_2 l0_3 a1 a2 = some r) :
  Calls Try.prog 52 #[.agg #[.int .i64 a0_0, .int .i64 a0_1, .int .i64 a0_2, .slice A0_3 l0_3.length c0_3], .int .i64 a1, .int .i64 a2] w fun e w' => e = .returned (.int .i64 r) ∧ Below w.heap.size w w' := by
 have hu29 := Try.underlying29
 have HR0_3 := Aside0.mk hr0_3
 have HC0_3 := Aside0.mk hc0_3
 clear hr0_3 hc0_3
 have HB := Aside0.mk (Below.refl w.heap.size w)
 have H : (if 0 ≤ (wrap64 ((wrap64 (a1 * a0_2)) + a2)) then (if (wrap64 ((wrap64 (a1 * a0_2)) + a2)) < (l0_3.length : Int) then (some (rd l0_3 (wrap64 ((wrap64 (a1 * a0_2)) + a2)))) else (none)) else (none)) = some r := h
 clear h
 obtain ⟨ji4, hji4⟩ : ∃ j_ : Int, (wrap64 ((wrap64 (a1 * a0_2)) + a2)) = j_ := ⟨_, rfl⟩
 replace H : (if 0 ≤ (ji4) then (if (ji4) < (l0_3.length : Int) then (some (rd l0_3 (ji4))) else (none)) else (none)) = some r := by first | (rw [hji4] at H; exact H) | (simp only [hji4] at H ⊢; exact H)
 have hji4w : (IntKind.i64.wrap ((wrap64 (a1 * a0_2)) + a2)) = ji4 := (zk _).trans hji4
 by_cases c5 : 0 ≤ (ji4)
 ·rw [if_pos c5] at H
  have c5b0 : decide (0 ≤ (ji4)) = true := decide_eq_true c5
  clear c5
  by_cases c6 : (ji4) < (l0_3.length : Int)
  ·rw [if_pos c6] at H
   have c6b0 : decide ((ji4) < (l0_3.length : Int)) = true := decide_eq_true c6
   clear c6
   obtain rfl := Option.some.inj H
   go_enter Try.func52, Try.ntmps52
   go_wp2_with (first | ((with_reducible refine zq (N := 3) rfl ?_); refine zo ?hg (N := 3) ?hd (cs := #[.int .i64 a0_0, .int .i64 a0_1, .int .i64 a0_2, .slice A0_3 l0_3.length c0_3]) (t := 29) ?hr ?_; (case hd => rfl); (case hg => rfl); (case hr => exact sqG); intro gb198 hg w7 hbox hb; have n0_ := Aside0.mk (ze sqB hb); have n1_ := Aside0.mk (hbox); have n2_ := Aside0.mk ((sqS hg : w.heap.size ≤ gb198)); have n3_ := Aside0.mk ((sqS hg : w.heap.size ≤ gb198)); clear HB; have HB := n0_; have BK198 := n1_; have GW198 := n2_; have GE198 := n3_; clear n0_ n1_ n2_ n3_; clear hb hbox hg; have hcz8_0 : w7.cell? ⟨gb198, 0, none⟩ = some (.int .i64 a0_0) := (zb BK198.out 0).trans rfl; have hcz8_1 : w7.cell? ⟨gb198, 1, none⟩ = some (.int .i64 a0_1) := (zb BK198.out 1).trans rfl; have hcz8_2 : w7.cell? ⟨gb198, 2, none⟩ = some (.int .i64 a0_2) := (zb BK198.out 2).trans rfl; have hcz8_3 : w7.cell? ⟨gb198, 3, none⟩ = some (.slice A0_3 l0_3.length c0_3) := (zb BK198.out 3).trans rfl; have hfz8_0 := za BK198.out 0; have hfz8_1 := za BK198.out 1; have hfz8_2 := za BK198.out 2; have hfz8_3 := za BK198.out 3; have p199 : 0 ≤ ((ji4) : Int) := of_decide_eq_true sqA; have q199 : (ji4) < (l0_3.length : Int) := of_decide_eq_true sqA; obtain ⟨ad199, e199, hx199_0⟩ := Kd.qm HR0_3.out (ji4) p199 q199; cases e199; replace hx199_0 := (HB.out.cell (World.block_lt_of_cell? w _ hx199_0)).trans hx199_0; replace p199 := eq_true p199; replace q199 := eq_true q199))
   go_ret
   exact ⟨by first | rfl | (simp [yB, yy] <;> rfl) | (simp only [← hji4]; first | rfl | (simp [yB, yy] <;> rfl)) | (simp [*, yB, yy] <;> rfl), sqB⟩
  ·rw [if_neg c6] at H
   exact absurd H (by simp)
 ·rw [if_neg c5] at H
  exact absurd H (by simp)

mutual
def zt.l0 : Nat → List Int → Int → Int → Int → Int → List Int → Int → Int → Int → List Int → Option (Int × Int × Int × List Int)
 | 0, _, _, _, _, _, _, _, _, _, _ => none
 | k + 1, x5, x7, x201000, x201001, x201002, x201003, x206000, x206001, x206002, x206003 => if x7 < x201001 then (zt.l1 k x5 x7 x5 (x5.length : Int) 0 x201000 x201001 x201002 x201003 x206000 x206001 x206002 x206003) else (some (x206000, x206001, x206002, x206003))
def zt.l1 : Nat → List Int → Int → List Int → Int → Int → Int → Int → Int → List Int → Int → Int → Int → List Int → Option (Int × Int × Int × List Int)
 | 0, _, _, _, _, _, _, _, _, _, _, _, _, _ => none
 | k + 1, x5, x7, x25, x26, x27, x201000, x201001, x201002, x201003, x206000, x206001, x206002, x206003 => if x27 < x26 then (if 0 ≤ x27 then (if x27 < (x25.length : Int) then ((jG.f x201000 x201001 x201002 x201003 x7 (rd x25 x27)).bind fun t207 => (if x206003.length < 17592186044416 then (zt.l1 k x5 x7 x25 x26 (wrap64 (x27 + 1)) x201000 x201001 x201002 x201003 x206000 x206001 x206002 (x206003 ++ [t207])) else (none))) else (none)) else (none)) else (zt.l0 k x5 (wrap64 (x7 + 1)) x201000 x201001 x201002 x201003 x206000 x206001 x206002 x206003)
end
def zt.f (k : Nat) (a0_0 : Int) (a0_1 : Int) (a0_2 : Int) (l0_3 : List Int) (a1 : Int) : Option (Int × Int × Int × List Int) := (zA.f k a1).bind fun t202 => (zt.l0 k t202 0 a0_0 a0_1 a0_2 l0_3 a0_0 a0_1 (t202.length : Int) ([] : List Int))
def zt.T9 : Bool × List (List Nat × List Nat) := (true, [([], []), ([0], [0]), ([], []), ([], []), ([], []), ([2, 3, 4], [2, 3, 4]), ([5], [5]), ([1, 6, 5], [1, 6]), ([0, 1, 2, 3, 4, 5, 6, 7], []), ([8, 7, 7, 0, 1, 2, 3, 4, 5, 6, 7], [7, 8])])
def zt.B9 : List Nat := [0, 1, 0, 0, 0, 28, 60, 127, 255, 511]
theorem zt.tab9 : vq .any (opsOf Try.f38 9) = zt.T9 := by kernel_rfl
theorem zt.zcM : vk zt.T9.2 zt.B9 = true := by kernel_rfl
theorem zt.calls (k : Nat) (a0_0 : Int) (a0_1 : Int) (a0_2 : Int) (A0_3 : Option Addr) (c0_3 : Nat) (l0_3 : List Int) (a1 : Int) (r1 : Int) (r2 : Int) (r3 : Int) (r4 : List Int) (w : World) (hr0_3 : Kd.C (Kd.int .i64) w A0_3 l0_3.length l0_3) (hc0_3 : l0_3.length ≤ c0_3) (h : zt.f k a0_0 a0_1 a0_2 l0_3 a1 = some (r1, r2, r3, r4)) :
  Calls Try.prog 38 #[.agg #[.int .i64 a0_0, .int .i64 a0_1, .int .i64 a0_2, .slice A0_3 l0_3.length c0_3], .int .i64 a1] w fun e w' => ∃ v3_ : Value, e = .returned (.agg #[.int .i64 r1, .int .i64 r2, .int .i64 r3, v3_]) ∧ Kd.R (Kd.int .i64) 3 w' w.heap.size (fun _ => True) v3_ r4 ∧ Below w.heap.size w w' := by
 have hu29 := Try.underlying29
 have HR0_3 := Aside0.mk hr0_3
 have HC0_3 := Aside0.mk hc0_3
 clear hr0_3 hc0_3
 have HB := Aside0.mk (Below.refl w.heap.size w)
 have H : ((zA.f k a1).bind fun t202 => (zt.l0 k t202 0 a0_0 a0_1 a0_2 l0_3 a0_0 a0_1 (t202.length : Int) ([] : List Int))) = some (r1, r2, r3, r4) := h
 clear h
 replace H := Option.bind_eq_some_iff.mp H
 obtain ⟨t202, A30, H⟩ := H
 replace H : (zt.l0 k t202 0 a0_0 a0_1 a0_2 l0_3 a0_0 a0_1 (t202.length : Int) ([] : List Int)) = some (r1, r2, r3, r4) := H
 have A3 := Aside0.mk A30
 clear A30
 have H' := Aside0.mk H
 clear H
 go_enter Try.func38, Try.ntmps38
 go_wp2_with (first | ((with_reducible refine zq (N := 2) rfl ?_); refine zo ?hg (N := 2) ?hd (cs := #[.int .i64 a0_0, .int .i64 a0_1, .int .i64 a0_2, .slice A0_3 l0_3.length c0_3]) (t := 29) ?hr ?_; (case hd => rfl); (case hg => rfl); (case hr => exact sqG); intro gb200 hg w4 hbox hb; have n0_ := Aside0.mk (ze sqB hb); have n1_ := Aside0.mk (hbox); have n2_ := Aside0.mk ((sqS hg : w.heap.size ≤ gb200)); have n3_ := Aside0.mk ((sqS hg : w.heap.size ≤ gb200)); clear HB; have HB := n0_; have BK200 := n1_; have GW200 := n2_; have GE200 := n3_; clear n0_ n1_ n2_ n3_; clear hb hbox hg) | ((with_reducible refine zq (N := 4) rfl ?_); refine zo ?hg (N := 4) ?hd (cs := #[.int .i64 0, .int .i64 0, .int .i64 0, .slice none 0 0]) (t := 29) ?hr ?_; (case hd => rfl); (case hg => rfl); (case hr => exact sqG); intro gb201 hg w5 hbox hb; have n0_ := Aside0.mk (zd (g := gb200) (o := .cells #[.int .i64 a0_0, .int .i64 a0_1, .int .i64 a0_2, .slice A0_3 l0_3.length c0_3] 29 (0, 0)) (sqK BK200.out) hb); have n1_ := Aside0.mk (ze sqB hb); have n2_ := Aside0.mk (hbox); have n3_ := Aside0.mk ((sqS hg : w.heap.size ≤ gb201)); have n4_ := Aside0.mk ((sqS hg : w.heap.size ≤ gb201)); have n5_ := Aside0.mk ((by rw [hg]; exact Nat.ne_of_lt (zz (g := gb200) (o := .cells #[.int .i64 a0_0, .int .i64 a0_1, .int .i64 a0_2, .slice A0_3 l0_3.length c0_3] 29 (0, 0)) (sqK BK200.out)) : gb200 ≠ gb201)); have n6_ := Aside0.mk ((by rw [hg]; exact Nat.ne_of_gt (zz (g := gb200) (o := .cells #[.int .i64 a0_0, .int .i64 a0_1, .int .i64 a0_2, .slice A0_3 l0_3.length c0_3] 29 (0, 0)) (sqK BK200.out)) : gb201 ≠ gb200)); clear BK200; clear HB; have BK200 := n0_; have HB := n1_; have BK201 := n2_; have GW201 := n3_; have GE201 := n4_; have NB200_201 := n5_; have NB201_200 := n6_; clear n0_ n1_ n2_ n3_ n4_ n5_ n6_; clear hb hbox hg) | ((with_reducible refine zf (f := 51) rfl ?_); refine zu (some 11) rfl rfl Try.func51 (by kernel_rfl) rfl #[.int .i64 a1] rfl sqM ?_; (with_reducible refine (zA.calls k a1 t202 _ A3.out).mono ?_); rintro e w6 ⟨v203, rfl, ho0, hb⟩; refine ⟨_, rfl, ?_⟩; have n0_ := Aside0.mk (Kd.qq ho0 (zB sqB)); have n1_ := Aside0.mk (zd (g := gb200) (o := .cells #[.int .i64 a0_0, .int .i64 a0_1, .int .i64 a0_2, .slice A0_3 l0_3.length c0_3] 29 (0, 0)) (sqK BK200.out) hb); have n2_ := Aside0.mk (zd (g := gb201) (o := .cells #[.int .i64 0, .int .i64 0, .int .i64 0, .slice none 0 0] 29 (0, 0)) (sqK BK201.out) hb); have n3_ := Aside0.mk (ze sqB hb); clear BK200; clear BK201; clear HB; have HO204 := n0_; have BK200 := n1_; have BK201 := n2_; have HB := n3_; clear n0_ n1_ n2_ n3_; (try clear hb); (try clear hb2); (try clear hk); (try clear hi); (try clear ho0); have hnb7 := NB200_201.out; have hnc7 := NB201_200.out; have hcz8_0 : w6.cell? ⟨gb200, 0, none⟩ = some (.int .i64 a0_0) := (zb BK200.out 0).trans rfl; have hcz8_1 : w6.cell? ⟨gb200, 1, none⟩ = some (.int .i64 a0_1) := (zb BK200.out 1).trans rfl; have hcz8_2 : w6.cell? ⟨gb200, 2, none⟩ = some (.int .i64 a0_2) := (zb BK200.out 2).trans rfl; have hcz8_3 : w6.cell? ⟨gb200, 3, none⟩ = some (.slice A0_3 l0_3.length c0_3) := (zb BK200.out 3).trans rfl; have hfz8_0 := za BK200.out 0; have hfz8_1 := za BK200.out 1; have hfz8_2 := za BK200.out 2; have hfz8_3 := za BK200.out 3; obtain ⟨Ao9, co9, eo9⟩ := Kd.z8 HO204.out; subst eo9) | ((with_reducible refine zq (N := 6) rfl ?_); refine zo ?hg (N := 6) ?hd (cs := #[.int .i64 0, .int .i64 0, .int .i64 0, .slice none 0 0]) (t := 29) ?hr ?_; (case hd => rfl); (case hg => rfl); (case hr => exact sqG); intro gb205 hg w10 hbox hb; have n0_ := Aside0.mk (Kd.zE (sqR HO204.out) hb); have n1_ := Aside0.mk (zd (g := gb200) (o := .cells #[.int .i64 a0_0, .int .i64 a0_1, .int .i64 a0_2, .slice A0_3 l0_3.length c0_3] 29 (0, 0)) (sqK BK200.out) hb); have n2_ := Aside0.mk (zd (g := gb201) (o := .cells #[.int .i64 0, .int .i64 0, .int .i64 0, .slice none 0 0] 29 (0, 0)) (sqK BK201.out) hb); have n3_ := Aside0.mk (ze sqB hb); have n4_ := Aside0.mk (hbox); have n5_ := Aside0.mk ((sqS hg : w.heap.size ≤ gb205)); have n6_ := Aside0.mk ((sqS hg : w.heap.size ≤ gb205)); have n7_ := Aside0.mk ((by rw [hg]; exact Nat.ne_of_lt (zz (g := gb200) (o := .cells #[.int .i64 a0_0, .int .i64 a0_1, .int .i64 a0_2, .slice A0_3 l0_3.length c0_3] 29 (0, 0)) (sqK BK200.out)) : gb200 ≠ gb205)); have n8_ := Aside0.mk ((by rw [hg]; exact Nat.ne_of_gt (zz (g := gb200) (o := .cells #[.int .i64 a0_0, .int .i64 a0_1, .int .i64 a0_2, .slice A0_3 l0_3.length c0_3] 29 (0, 0)) (sqK BK200.out)) : gb205 ≠ gb200)); have n9_ := Aside0.mk ((by rw [hg]; exact Nat.ne_of_lt (zz (g := gb201) (o := .cells #[.int .i64 0, .int .i64 0, .int .i64 0, .slice none 0 0] 29 (0, 0)) (sqK BK201.out)) : gb201 ≠ gb205)); have n10_ := Aside0.mk ((by rw [hg]; exact Nat.ne_of_gt (zz (g := gb201) (o := .cells #[.int .i64 0, .int .i64 0, .int .i64 0, .slice none 0 0] 29 (0, 0)) (sqK BK201.out)) : gb205 ≠ gb201)); clear HO204; clear BK200; clear BK201; clear HB; have HO204 := n0_; have BK200 := n1_; have BK201 := n2_; have HB := n3_; have BK205 := n4_; have GW205 := n5_; have GE205 := n6_; have NB200_205 := n7_; have NB205_200 := n8_; have NB201_205 := n9_; have NB205_201 := n10_; clear n0_ n1_ n2_ n3_ n4_ n5_ n6_ n7_ n8_ n9_ n10_; clear hb hbox hg; have hnb11 := NB205_200.out; have hnc11 := NB200_205.out; have hnb12 := NB205_201.out; have hnc12 := NB201_205.out; have hcz13_0 : w10.cell? ⟨gb205, 0, none⟩ = some (.int .i64 0) := (zb BK205.out 0).trans rfl; have hcz13_1 : w10.cell? ⟨gb205, 1, none⟩ = some (.int .i64 0) := (zb BK205.out 1).trans rfl; have hcz13_2 : w10.cell? ⟨gb205, 2, none⟩ = some (.int .i64 0) := (zb BK205.out 2).trans rfl; have hcz13_3 : w10.cell? ⟨gb205, 3, none⟩ = some (.slice none 0 0) := (zb BK205.out 3).trans rfl; have hfz13_0 := za BK205.out 0; have hfz13_1 := za BK205.out 1; have hfz13_2 := za BK205.out 2; have hfz13_3 := za BK205.out 3))
 go_loopg [7] k (fun kq v7 w' => ∃ (x7_1 : Int) (x206003_1 : List Int) (u206003 : Value), v7 = .int .i64 x7_1 ∧ Aside0 (zt.l0 kq t202 x7_1 a0_0 a0_1 a0_2 l0_3 a0_0 a0_1 (t202.length : Int) x206003_1 = some (r1, r2, r3, r4)) ∧ Aside0 (kq ≤ k) ∧ Aside0 (Kd.R (Kd.int .i64) 3 w' w.heap.size (fun k_ => some k_ ≠ (u206003 : Value).ownBlock) (.slice Ao9 t202.length co9) t202) ∧ Aside0 (Kd.R (Kd.int .i64) 3 w' w.heap.size (fun k_ => some k_ ≠ ((.slice Ao9 t202.length co9) : Value).ownBlock) u206003 x206003_1) ∧ Aside0 (w'.heap[gb200]? = some (.cells #[.int .i64 a0_0, .int .i64 a0_1, .int .i64 a0_2, (.slice A0_3 l0_3.length c0_3)] 29 (0, 0))) ∧ Aside0 (w'.heap[gb201]? = some (.cells #[.int .i64 0, .int .i64 0, .int .i64 0, (.slice none 0 0)] 29 (0, 0))) ∧ Aside0 (w'.heap[gb205]? = some (.cells #[.int .i64 a0_0, .int .i64 a0_1, .int .i64 (t202.length : Int), u206003] 29 (0, 0))) ∧ Aside0 (Below w.heap.size w w'))
 case atStart => exact ⟨(0), (([] : List Int)), (.slice none 0 0), (sqD), H', ⟨Nat.le_refl _⟩, ⟨by refine sqR ?_; exact Kd.zy (Kd.zF (p := ⟨gb205, 3, none⟩) (Kd.zF (p := ⟨gb205, 2, none⟩) (Kd.zF (p := ⟨gb205, 1, none⟩) (Kd.zF (p := ⟨gb205, 0, none⟩) (Kd.zV HO204.out BK205.out (by decide)) (fun _ hk => hk.2) (.int .i64 a0_0)) (fun _ hk => hk.2) (.int .i64 a0_1)) (fun _ hk => hk.2) (.int .i64 (t202.length : Int))) (fun _ hk => hk.2) (.slice none 0 0)) (fun _ hk => (by simp [Value.ownBlock]))⟩, ⟨sqN⟩, ⟨by refine sqK ?_; refine zJ ?_ NB200_205.out _; refine sqK ?_; refine zJ ?_ NB200_205.out _; refine sqK ?_; refine zJ ?_ NB200_205.out _; refine sqK ?_; refine zJ ?_ NB200_205.out _; refine sqK ?_; exact BK200.out⟩, ⟨by refine sqK ?_; refine zJ ?_ NB201_205.out _; refine sqK ?_; refine zJ ?_ NB201_205.out _; refine sqK ?_; refine zJ ?_ NB201_205.out _; refine sqK ?_; refine zJ ?_ NB201_205.out _; refine sqK ?_; exact BK201.out⟩, ⟨by refine sqK ?_; refine zL (cs := #[.int .i64 a0_0, .int .i64 a0_1, .int .i64 (t202.length : Int), .slice none 0 0]) ?_ 3 _ rfl; refine sqK ?_; refine zL (cs := #[.int .i64 a0_0, .int .i64 a0_1, .int .i64 0, .slice none 0 0]) ?_ 2 _ rfl; refine sqK ?_; refine zL (cs := #[.int .i64 a0_0, .int .i64 0, .int .i64 0, .slice none 0 0]) ?_ 1 _ rfl; refine sqK ?_; refine zL (cs := #[.int .i64 0, .int .i64 0, .int .i64 0, .slice none 0 0]) ?_ 0 _ rfl; refine sqK ?_; exact BK205.out⟩, ⟨sqB⟩⟩
 case round =>
  clear H'
  try clear c1
  try clear p2
  try clear c3
  try clear c5
  try clear c7
  try clear c11
  try clear c12
  try clear hcz13_0
  try clear hcz13_1
  try clear hcz13_2
  try clear hcz13_3
  try clear hcz8_0
  try clear hcz8_1
  try clear hcz8_2
  try clear hcz8_3
  try clear hfz13_0
  try clear hfz13_1
  try clear hfz13_2
  try clear hfz13_3
  try clear hfz8_0
  try clear hfz8_1
  try clear hfz8_2
  try clear hfz8_3
  obtain ⟨x7_1, x206003_1, u206003, rfl, HA, HK1, HO_5, HO_206003, BK200, BK201, BK205, HB⟩ := hrel
  cases gk with
  | zero => exact absurd HA.out (by simp [zt.l0])
  | succ k1 =>
   have H := HA.out
   clear HA
   simp only [zt.l0] at H
   by_cases c14 : x7_1 < a0_1
   ·rw [if_pos c14] at H
    have c14b0 : decide (x7_1 < a0_1) = true := decide_eq_true c14
    clear c14
    have H' := Aside0.mk H
    clear H
    have hnb15 := NB200_201.out
    have hnc15 := NB201_200.out
    have hnb16 := NB200_205.out
    have hnc16 := NB205_200.out
    have hcz17_0 : wr.cell? ⟨gb200, 0, none⟩ = some (.int .i64 a0_0) := (zb BK200.out 0).trans rfl
    have hcz17_1 : wr.cell? ⟨gb200, 1, none⟩ = some (.int .i64 a0_1) := (zb BK200.out 1).trans rfl
    have hcz17_2 : wr.cell? ⟨gb200, 2, none⟩ = some (.int .i64 a0_2) := (zb BK200.out 2).trans rfl
    have hcz17_3 : wr.cell? ⟨gb200, 3, none⟩ = some (.slice A0_3 l0_3.length c0_3) := (zb BK200.out 3).trans rfl
    have hfz17_0 := za BK200.out 0; have hfz17_1 := za BK200.out 1; have hfz17_2 := za BK200.out 2; have hfz17_3 := za BK200.out 3
    go_wp2
    go_loopg [27] k1 (fun kq v27 w' => ∃ (x27_2 : Int) (x206003_2 : List Int) (u206003 : Value), v27 = .int .i64 x27_2 ∧ Aside0 (zt.l1 kq t202 x7_1 t202 (t202.length : Int) x27_2 a0_0 a0_1 a0_2 l0_3 a0_0 a0_1 (t202.length : Int) x206003_2 = some (r1, r2, r3, r4)) ∧ Aside0 (kq ≤ k1) ∧ Aside0 (Kd.R (Kd.int .i64) 3 w' w.heap.size (fun k_ => some k_ ≠ (u206003 : Value).ownBlock) (.slice Ao9 t202.length co9) t202) ∧ Aside0 (Kd.R (Kd.int .i64) 3 w' w.heap.size (fun k_ => some k_ ≠ (u206003 : Value).ownBlock) (.slice Ao9 t202.length co9) t202) ∧ Aside0 (Kd.R (Kd.int .i64) 3 w' w.heap.size (fun k_ => some k_ ≠ ((.slice Ao9 t202.length co9) : Value).ownBlock ∧ some k_ ≠ ((.slice Ao9 t202.length co9) : Value).ownBlock) u206003 x206003_2) ∧ Aside0 (w'.heap[gb200]? = some (.cells #[.int .i64 a0_0, .int .i64 a0_1, .int .i64 a0_2, (.slice A0_3 l0_3.length c0_3)] 29 (0, 0))) ∧ Aside0 (w'.heap[gb201]? = some (.cells #[.int .i64 0, .int .i64 0, .int .i64 0, (.slice none 0 0)] 29 (0, 0))) ∧ Aside0 (w'.heap[gb205]? = some (.cells #[.int .i64 a0_0, .int .i64 a0_1, .int .i64 (t202.length : Int), u206003] 29 (0, 0))) ∧ Aside0 (Below w.heap.size w w'))
    case atStart => exact ⟨(0), (x206003_1), (u206003), (sqD), H', ⟨Nat.le_refl _⟩, ⟨sqR HO_5.out⟩, ⟨sqR HO_5.out⟩, ⟨by refine sqR ?_; exact Kd.zy HO_206003.out (fun _ hk => by first | exact ⟨hk, hk⟩ | (refine ⟨?_, ?_⟩ <;> intro e_ <;> simp only [e_, ne_eq, not_true_eq_false, and_false, false_and] at hk))⟩, ⟨sqK BK200.out⟩, ⟨sqK BK201.out⟩, ⟨sqK BK205.out⟩, ⟨sqB⟩⟩
    case round =>
     clear H'
     try clear c1
     try clear p2
     try clear c3
     try clear c5
     try clear c7
     try clear c11
     try clear c12
     try clear c14
     try clear c14b0
     try clear c15
     try clear c16
     try clear hcz13_0
     try clear hcz13_1
     try clear hcz13_2
     try clear hcz13_3
     try clear hcz17_0
     try clear hcz17_1
     try clear hcz17_2
     try clear hcz17_3
     try clear hcz8_0
     try clear hcz8_1
     try clear hcz8_2
     try clear hcz8_3
     try clear hfz13_0
     try clear hfz13_1
     try clear hfz13_2
     try clear hfz13_3
     try clear hfz17_0
     try clear hfz17_1
     try clear hfz17_2
     try clear hfz17_3
     try clear hfz8_0
     try clear hfz8_1
     try clear hfz8_2
     try clear hfz8_3
     try clear p2
     obtain ⟨x27_2, x206003_2, u206003, rfl, HA, HK2, HO_5, HO_25, HO_206003, BK200, BK201, BK205, HB⟩ := hrel
     cases gk with
     | zero => exact absurd HA.out (by simp [zt.l1])
     | succ k2 =>
      have H := HA.out
      clear HA
      simp only [zt.l1] at H
      by_cases c18 : x27_2 < (t202.length : Int)
      ·rw [if_pos c18] at H
       have c18b0 : decide (x27_2 < (t202.length : Int)) = true := decide_eq_true c18
       clear c18
       by_cases c19 : 0 ≤ x27_2
       ·rw [if_pos c19] at H
        have c19b0 : decide (0 ≤ x27_2) = true := decide_eq_true c19
        clear c19
        by_cases c20 : x27_2 < (t202.length : Int)
        ·rw [if_pos c20] at H
         have c20b0 : decide (x27_2 < (t202.length : Int)) = true := decide_eq_true c20
         clear c20
         replace H := Option.bind_eq_some_iff.mp H
         obtain ⟨t207, A210, H⟩ := H
         replace H : (if x206003_2.length < 17592186044416 then (zt.l1 k2 t202 x7_1 t202 (t202.length : Int) (wrap64 (x27_2 + 1)) a0_0 a0_1 a0_2 l0_3 a0_0 a0_1 (t202.length : Int) (x206003_2 ++ [t207])) else (none)) = some (r1, r2, r3, r4) := H
         have A21 := Aside0.mk A210
         clear A210
         by_cases c22 : x206003_2.length < 17592186044416
         ·rw [if_pos c22] at H
          have LMc22 := Aside0.mk c22
          clear c22
          obtain ⟨y208, hy208⟩ : ∃ y_ : List Int, y_ = (x206003_2 ++ [t207]) := ⟨_, rfl⟩
          replace H : (zt.l1 k2 t202 x7_1 t202 (t202.length : Int) (wrap64 (x27_2 + 1)) a0_0 a0_1 a0_2 l0_3 a0_0 a0_1 (t202.length : Int) y208) = some (r1, r2, r3, r4) := by first | (rw [hy208]; with_reducible exact H) | (have H2_ := (Option.bind_some _ _).symm.trans H; rw [hy208]; with_reducible exact H2_) | (have H2_ := (Option.bind_some _ _).symm.trans H; with_reducible exact H2_) | with_reducible exact H | (rw [hy208]; exact H) | exact H
          have Ny208 := Aside0.mk hy208
          clear hy208
          have H' := Aside0.mk H
          clear H
          have p206 : 0 ≤ (x27_2 : Int) := of_decide_eq_true sqA
          have q206 : x27_2 < (t202.length : Int) := of_decide_eq_true sqA
          obtain ⟨ad206, e206, hx206_0⟩ := Kd.qm (Kd.zx HO_25.out).2.2 x27_2 p206 q206
          cases e206
          replace p206 := eq_true p206
          replace q206 := eq_true q206
          try go_wp2
          have n0_ := Aside0.mk (Kd.vx HO_5.out)
          have n1_ := Aside0.mk (Kd.vx HO_25.out)
          have n2_ := Aside0.mk (Kd.vx HO_206003.out)
          have n3_ := Aside0.mk (qL BK200.out)
          have n4_ := Aside0.mk (qL BK201.out)
          have n5_ := Aside0.mk (qL BK205.out)
          have n6_ := Aside0.mk (qf HB.out)
          clear HO_5 HO_25 HO_206003 BK200 BK201 BK205 HB; have HO_5 := n0_; have HO_25 := n1_; have HO_206003 := n2_; have BK200 := n3_; have BK201 := n4_; have BK205 := n5_; have HB := n6_; clear n0_ n1_ n2_ n3_ n4_ n5_ n6_
          refine y2 (n := 10) (S := fun w' => w'.cell? ⟨gb205, 0, none⟩ = some (.int .i64 a0_0) ∧ w'.cell? ⟨gb205, 1, none⟩ = some (.int .i64 a0_1) ∧ w'.cell? ⟨gb205, 2, none⟩ = some (.int .i64 (t202.length : Int)) ∧ w'.cell? ⟨gb205, 3, none⟩ = some (u206003) ∧ w'.cell? ⟨gb200, 0, none⟩ = some (.int .i64 a0_0) ∧ w'.cell? ⟨gb200, 1, none⟩ = some (.int .i64 a0_1) ∧ w'.cell? ⟨gb200, 2, none⟩ = some (.int .i64 a0_2) ∧ w'.cell? ⟨gb200, 3, none⟩ = some (.slice A0_3 l0_3.length c0_3)) (ds := [9]) #[false, false, false, false, false, false, false, false, false, false] (by kernel_rfl) rfl rfl ⟨(zb BK205.out 0).trans rfl, (zb BK205.out 1).trans rfl, (zb BK205.out 2).trans rfl, (zb BK205.out 3).trans rfl, (zb BK200.out 0).trans rfl, (zb BK200.out 1).trans rfl, (zb BK200.out 2).trans rfl, (zb BK200.out 3).trans rfl⟩ (fun hHeld => ?_); refine vw zt.tab9 zt.zcM (fun HT_ HW_ => ?_)
          generalize wr.drew = w23 at HO_5 HO_25 HO_206003 BK200 BK201 BK205 HB hHeld ⊢
          refine zO (i := 0) (N := some 31) (v := ?_) (a' := ?_) #[true, false, false, false, false, false, false, false, false, false] rfl rfl (zv HT_.out (by kernel_rfl)) (fun _ _ _ h => h) (Or.inl ⟨by rfl, ?_⟩) ?_ ?_
          rotate_left
          ·intro w'; go_simp; with_reducible rfl
          rotate_left
          ·simp only [Act.put, List.setIfInBounds_toArray, List.set_cons_zero, List.set_cons_succ, zk, zm]; rfl
          refine zO (i := 3) (N := some 34) (v := ?_) (a' := ?_) #[true, false, false, true, false, false, false, false, false, false] rfl rfl (zv HT_.out (by kernel_rfl)) (fun _ _ _ h => h) (Or.inl ⟨by rfl, ?_⟩) ?_ ?_
          rotate_left
          ·intro w'; go_simp; with_reducible rfl
          rotate_left
          ·simp only [Act.put, List.setIfInBounds_toArray, List.set_cons_zero, List.set_cons_succ, zk, zm]; rfl
          refine zO (i := 4) (N := some 35) (v := ?_) (a' := ?_) #[true, false, false, true, true, false, false, false, false, false] rfl rfl (zv HT_.out (by kernel_rfl)) (fun _ _ _ h => h) (Or.inl ⟨by rfl, ?_⟩) ?_ ?_
          rotate_left
          ·intro w'; go_simp; with_reducible rfl
          rotate_left
          ·simp only [Act.put, List.setIfInBounds_toArray, List.set_cons_zero, List.set_cons_succ, zk, zm]; rfl
          refine jt (i := 1) (N := some 32) (v := ?_) (a' := ?_) #[true, true, false, true, true, false, false, false, false, false] rfl rfl (qE HT_.out HW_.out (by kernel_rfl)) (fun _ _ _ h => h) (Or.inl ⟨by rfl, ?_⟩) hHeld ?_ ?_
          rotate_left
          ·rintro w' ⟨s0, s1, s2, s3, s4, s5, s6, s7⟩; go_simp; with_reducible rfl
          rotate_left
          ·simp only [Act.put, List.setIfInBounds_toArray, List.set_cons_zero, List.set_cons_succ, zk, zm]; rfl
          refine jt (i := 2) (N := some 33) (v := ?_) (a' := ?_) #[true, true, true, true, true, false, false, false, false, false] rfl rfl (qE HT_.out HW_.out (by kernel_rfl)) (fun _ _ _ h => h) (Or.inl ⟨by rfl, ?_⟩) hHeld ?_ ?_
          rotate_left
          ·rintro w' ⟨s0, s1, s2, s3, s4, s5, s6, s7⟩; go_simp; with_reducible rfl
          rotate_left
          ·simp only [Act.put, List.setIfInBounds_toArray, List.set_cons_zero, List.set_cons_succ, zk, zm]; rfl
          refine Jb (i := 5) (N := some 36) #[true, true, true, true, true, true, false, false, false, false] rfl rfl (jX HT_.out (by kernel_rfl)) (by decide) (fun K hK => ?_)
          refine Zk Try.func52 (by kernel_rfl) rfl #[.agg #[.int .i64 a0_0, .int .i64 a0_1, .int .i64 a0_2, .slice A0_3 l0_3.length c0_3], .int .i64 x7_1, .int .i64 (rd t202 x27_2)] (by rfl) rfl rfl sqM ?_
          with_reducible refine (jG.calls a0_0 a0_1 a0_2 _ _ l0_3 x7_1 (rd t202 x27_2) t207 _ ?side1 ?side2 A21.out).mono ?_
          (case side1 => exact sqC (Kd.zI HR0_3.out HB.out))
          (case side2 => exact HC0_3.out)
          rintro e w24 ⟨rfl, hb⟩
          refine ⟨_, rfl, ?_⟩
          have n0_ := Aside0.mk (Kd.zE (sqR HO_5.out) hb)
          have n1_ := Aside0.mk (Kd.zE (sqR HO_25.out) hb)
          have n2_ := Aside0.mk (Kd.zE (sqR HO_206003.out) hb)
          have n3_ := Aside0.mk (zd (g := gb200) (o := .cells #[.int .i64 a0_0, .int .i64 a0_1, .int .i64 a0_2, .slice A0_3 l0_3.length c0_3] 29 (0, 0)) (sqK BK200.out) hb)
          have n4_ := Aside0.mk (zd (g := gb201) (o := .cells #[.int .i64 0, .int .i64 0, .int .i64 0, .slice none 0 0] 29 (0, 0)) (sqK BK201.out) hb)
          have n5_ := Aside0.mk (zd (g := gb205) (o := .cells #[.int .i64 a0_0, .int .i64 a0_1, .int .i64 (t202.length : Int), u206003] 29 (0, 0)) (sqK BK205.out) hb)
          have n6_ := Aside0.mk (ze sqB hb)
          clear HO_5 HO_25 HO_206003 BK200 BK201 BK205 HB; have HO_5 := n0_; have HO_25 := n1_; have HO_206003 := n2_; have BK200 := n3_; have BK201 := n4_; have BK205 := n5_; have HB := n6_; clear n0_ n1_ n2_ n3_ n4_ n5_ n6_; (try clear hb); (try clear hb2); (try clear hk); (try clear hi)
          refine hK.out _ _ ⟨(zb BK205.out 0).trans rfl, (zb BK205.out 1).trans rfl, (zb BK205.out 2).trans rfl, (zb BK205.out 3).trans rfl, (zb BK200.out 0).trans rfl, (zb BK200.out 1).trans rfl, (zb BK200.out 2).trans rfl, (zb BK200.out 3).trans rfl⟩ (fun hHeld => ?_)
          clear hK K
          refine vt (a' := ?_) ?_ ?_
          rotate_left
          ·show Act.put _ (some 36) _ = _; simp only [Act.put, List.setIfInBounds_toArray, List.set_cons_zero, List.set_cons_succ, zk, zm]; rfl
          refine Jb (i := 6) (N := some 37) #[true, true, true, true, true, true, true, false, false, false] rfl rfl (jX HT_.out (by kernel_rfl)) (by decide) (fun K hK => ?_)
          refine zcl (w1 := ?_) (v := ?_) (by rfl) rfl ?_ ?_
          rotate_left 2
          ·go_simp
           constructor
           ·rfl
           ·rfl
          refine hK.out _ _ ⟨(zb (jQ BK205.out _) 0).trans rfl, (zb (jQ BK205.out _) 1).trans rfl, (zb (jQ BK205.out _) 2).trans rfl, (zb (jQ BK205.out _) 3).trans rfl, (zb (jQ BK200.out _) 0).trans rfl, (zb (jQ BK200.out _) 1).trans rfl, (zb (jQ BK200.out _) 2).trans rfl, (zb (jQ BK200.out _) 3).trans rfl⟩ (fun hHeld => ?_)
          clear hK K
          refine vt (a' := ?_) ?_ ?_
          rotate_left
          ·show Act.put _ (some 37) _ = _; simp only [Act.put, List.setIfInBounds_toArray, List.set_cons_zero, List.set_cons_succ, zk, zm]; rfl
          refine Jb (i := 7) (N := some 38) #[true, true, true, true, true, true, true, true, false, false] rfl rfl (jX HT_.out (by kernel_rfl)) (by decide) (fun K hK => ?_)
          refine Kd.Jr (Kd.int .i64) (w0 := w) w.heap.size (by rfl) (.tmp 32) (.tmp 37) 22 3 (.int .i64 0) 8 rfl Try.underlying22 yT rfl (by decide) (by omega) u206003 x206003_2 t207 [.int .i64 t207] (fun k_ => some k_ ≠ (.slice (some ad206) t202.length co9 : Value).ownBlock ∧ some k_ ≠ (.slice (some ad206) t202.length co9 : Value).ownBlock) (fun _ => False) rfl rfl ?aP (fun _ hk => hk.elim) ?aF ?aO ?aB ?aS ?aL ?_
          (case aP => exact rfl)
          (case aB => exact sqB)
          (case aF => exact (fun k_ hk => ⟨Kd.J6 (Kd.vr (sqR HO_5.out)) k_ hk, Kd.J6 (Kd.vr (sqR HO_25.out)) k_ hk⟩))
          (case aO => exact (sqR HO_206003.out))
          (case aS => exact (zB sqB))
          (case aL => have := LMc22.out; omega)
          intro v209 w25 ho hb hg hat
          rw [← Ny208.out] at ho
          have n0_ := Aside0.mk (Kd.ZX (ok := (fun _ => True)) (by refine sqR ?_; exact Kd.zy HO_5.out (fun _ hk => ⟨trivial, by first | exact hk | exact fun h_ => hk (h_.trans ((fun (A : Option Addr) (x y c : Nat) => (by cases A <;> rfl : (Value.slice A x c).ownBlock = (Value.slice A y c).ownBlock)) _ _ _ _))⟩)) hg hat)
          have n1_ := Aside0.mk (Kd.ZX (ok := (fun _ => True)) (by refine sqR ?_; exact Kd.zy HO_25.out (fun _ hk => ⟨trivial, by first | exact hk | exact fun h_ => hk (h_.trans ((fun (A : Option Addr) (x y c : Nat) => (by cases A <;> rfl : (Value.slice A x c).ownBlock = (Value.slice A y c).ownBlock)) _ _ _ _))⟩)) hg hat)
          have n2_ := Aside0.mk (qZ (g := gb200) (o := .cells #[.int .i64 a0_0, .int .i64 a0_1, .int .i64 a0_2, .slice A0_3 l0_3.length c0_3] 29 (0, 0)) (sqK BK200.out) hg (Kd.vz HO_206003.out BK200.out (by decide)))
          have n3_ := Aside0.mk (qZ (g := gb201) (o := .cells #[.int .i64 0, .int .i64 0, .int .i64 0, .slice none 0 0] 29 (0, 0)) (sqK BK201.out) hg (Kd.vz HO_206003.out BK201.out (by decide)))
          have n4_ := Aside0.mk (qZ (g := gb205) (o := .cells #[.int .i64 a0_0, .int .i64 a0_1, .int .i64 (t202.length : Int), u206003] 29 (0, 0)) (sqK BK205.out) hg (Kd.vz HO_206003.out BK205.out (by decide)))
          have n5_ := Aside0.mk (hb)
          have n6_ := Aside0.mk (ho)
          clear HO_5 HO_25 BK200 BK201 BK205 HB HO_206003; have HO_5 := n0_; have HO_25 := n1_; have BK200 := n2_; have BK201 := n3_; have BK205 := n4_; have HB := n5_; have HO210 := n6_; clear n0_ n1_ n2_ n3_ n4_ n5_ n6_ ho hb hg hat
          obtain ⟨Ao26, co26, eo26⟩ := Kd.z8 HO210.out
          (first | subst eo26 | (injection eo26 with f1_ f2_ f3_; have f4_ := f1_.symm; have f5_ := f3_.symm; clear f1_ f2_ f3_; subst f4_; subst f5_))
          refine hK.out _ _ ⟨(zb BK205.out 0).trans rfl, (zb BK205.out 1).trans rfl, (zb BK205.out 2).trans rfl, (zb BK205.out 3).trans rfl, (zb BK200.out 0).trans rfl, (zb BK200.out 1).trans rfl, (zb BK200.out 2).trans rfl, (zb BK200.out 3).trans rfl⟩ (fun hHeld => ?_)
          clear hK K
          refine vt (a' := ?_) ?_ ?_
          rotate_left
          ·show Act.put _ (some 38) _ = _; simp only [Act.put, List.setIfInBounds_toArray, List.set_cons_zero, List.set_cons_succ, zk, zm]; rfl
          refine zO (i := 8) (N := some 39) (v := ?_) (a' := ?_) #[true, true, true, true, true, true, true, true, true, false] rfl rfl (zv HT_.out (by kernel_rfl)) (fun _ _ _ h => h) (Or.inl ⟨by rfl, ?_⟩) ?_ ?_
          rotate_left
          ·intro w'; go_simp; with_reducible rfl
          rotate_left
          ·simp only [Act.put, List.setIfInBounds_toArray, List.set_cons_zero, List.set_cons_succ, zk, zm]; rfl
          refine Jz (i := 9) (N := none) #[true, true, true, true, true, true, true, true, true, true] rfl rfl (jX HT_.out (by kernel_rfl)) (by decide) (fun K hK => ?_)
          have hs27 : w25.cell? ⟨gb205, 3, none⟩ = some (u206003) := (zb BK205.out 3).trans rfl
          have hfs27 := za BK205.out 3
          have hns27_0 := NB200_205.out
          have hns27_1 := NB201_205.out
          have hms27_0 := NB205_200.out
          have hms27_1 := NB205_201.out
          refine QV (w1 := ?_) (by rfl) rfl ?_ ?_
          rotate_left
          ·go_simp
           rfl
          refine hK.out _ _ ?_
          clear hK K
          refine Qx (yJ HT_.out (by kernel_rfl)) ?_
          try go_wp2
          go_roundg k2
          case measure => have := HK1.out; have := HK2.out; omega
          case rel => exact ⟨(wrap64 (x27_2 + 1)), (y208), (.slice Ao26 y208.length co26), (sqD), H', ⟨by have := HK1.out; have := HK2.out; omega⟩, ⟨by refine sqR ?_; exact Kd.zy (Kd.zF (p := ⟨gb205, 3, none⟩) (Kd.zV HO_5.out BK205.out (by decide)) (fun _ hk => hk.2) (.slice Ao26 y208.length co26)) (fun _ hk => hk.1.2)⟩, ⟨by refine sqR ?_; exact Kd.zy (Kd.zF (p := ⟨gb205, 3, none⟩) (Kd.zV HO_25.out BK205.out (by decide)) (fun _ hk => hk.2) (.slice Ao26 y208.length co26)) (fun _ hk => hk.1.2)⟩, ⟨by refine sqR ?_; exact Kd.zy (Kd.zF (p := ⟨gb205, 3, none⟩) (Kd.zV HO210.out BK205.out (by decide)) (fun _ hk => hk.2) (.slice Ao26 y208.length co26)) (fun _ hk => by first | exact ⟨hk.1.1, hk.1.2⟩ | (refine ⟨?_, ?_⟩ <;> intro e_ <;> simp only [e_, ne_eq, not_true_eq_false, and_false, false_and] at hk))⟩, ⟨by refine sqK ?_; refine zJ ?_ NB200_205.out _; refine sqK ?_; exact BK200.out⟩, ⟨by refine sqK ?_; refine zJ ?_ NB201_205.out _; refine sqK ?_; exact BK201.out⟩, ⟨by refine sqK ?_; refine zL (cs := #[.int .i64 a0_0, .int .i64 a0_1, .int .i64 (t202.length : Int), u206003]) ?_ 3 _ rfl; refine sqK ?_; exact BK205.out⟩, ⟨sqB⟩⟩
         ·rw [if_neg c22] at H
          exact absurd H (by simp)
        ·rw [if_neg c20] at H
         exact absurd H (by simp)
       ·rw [if_neg c19] at H
        exact absurd H (by simp)
      ·rw [if_neg c18] at H
       have c18b0 : decide (x27_2 < (t202.length : Int)) = false := decide_eq_false c18
       clear c18
       have H' := Aside0.mk H
       clear H
       go_wp2
       go_roundg k2
       case measure => have := HK1.out; have := HK2.out; omega
       case rel => exact ⟨(wrap64 (x7_1 + 1)), (x206003_2), (u206003), (sqD), H', ⟨by have := HK1.out; have := HK2.out; omega⟩, ⟨sqR HO_5.out⟩, ⟨by refine sqR ?_; exact Kd.zy HO_206003.out (fun _ hk => hk.1)⟩, ⟨sqK BK200.out⟩, ⟨sqK BK201.out⟩, ⟨sqK BK205.out⟩, ⟨sqB⟩⟩
   ·rw [if_neg c14] at H
    have c14b0 : decide (x7_1 < a0_1) = false := decide_eq_false c14
    clear c14
    simp only [Option.some.injEq, Prod.mk.injEq] at H
    obtain ⟨rfl, rfl, rfl, rfl⟩ := H
    have hnb28 := NB200_201.out
    have hnc28 := NB201_200.out
    have hnb29 := NB200_205.out
    have hnc29 := NB205_200.out
    have hcz30_0 : wr.cell? ⟨gb200, 0, none⟩ = some (.int .i64 a0_0) := (zb BK200.out 0).trans rfl
    have hcz30_1 : wr.cell? ⟨gb200, 1, none⟩ = some (.int .i64 a0_1) := (zb BK200.out 1).trans rfl
    have hcz30_2 : wr.cell? ⟨gb200, 2, none⟩ = some (.int .i64 a0_2) := (zb BK200.out 2).trans rfl
    have hcz30_3 : wr.cell? ⟨gb200, 3, none⟩ = some (.slice A0_3 l0_3.length c0_3) := (zb BK200.out 3).trans rfl
    have hfz30_0 := za BK200.out 0; have hfz30_1 := za BK200.out 1; have hfz30_2 := za BK200.out 2; have hfz30_3 := za BK200.out 3
    have hnb31 := NB205_201.out
    have hnc31 := NB201_205.out
    have hcz32_0 : wr.cell? ⟨gb205, 0, none⟩ = some (.int .i64 a0_0) := (zb BK205.out 0).trans rfl
    have hcz32_1 : wr.cell? ⟨gb205, 1, none⟩ = some (.int .i64 a0_1) := (zb BK205.out 1).trans rfl
    have hcz32_2 : wr.cell? ⟨gb205, 2, none⟩ = some (.int .i64 (t202.length : Int)) := (zb BK205.out 2).trans rfl
    have hcz32_3 : wr.cell? ⟨gb205, 3, none⟩ = some (u206003) := (zb BK205.out 3).trans rfl
    have hfz32_0 := za BK205.out 0; have hfz32_1 := za BK205.out 1; have hfz32_2 := za BK205.out 2; have hfz32_3 := za BK205.out 3
    have hcz33_0 : wr.cell? ⟨gb201, 0, none⟩ = some (.int .i64 0) := (zb BK201.out 0).trans rfl
    have hcz33_1 : wr.cell? ⟨gb201, 1, none⟩ = some (.int .i64 0) := (zb BK201.out 1).trans rfl
    have hcz33_2 : wr.cell? ⟨gb201, 2, none⟩ = some (.int .i64 0) := (zb BK201.out 2).trans rfl
    have hcz33_3 : wr.cell? ⟨gb201, 3, none⟩ = some (.slice none 0 0) := (zb BK201.out 3).trans rfl
    have hfz33_0 := za BK201.out 0; have hfz33_1 := za BK201.out 1; have hfz33_2 := za BK201.out 2; have hfz33_3 := za BK201.out 3
    obtain ⟨Ao34, co34, eo34⟩ := Kd.z8 HO_206003.out
    subst eo34
    go_wp2
    refine bodyPost_ret (results_cell_row rfl _ _ gb201 29 #[.int .i64 a0_0, .int .i64 a0_1, .int .i64 (t202.length : Int), .slice Ao34 x206003_1.length co34] (0, 0) _ rfl (by refine sqK ?_; refine zL (cs := #[.int .i64 a0_0, .int .i64 a0_1, .int .i64 (t202.length : Int), .slice none 0 0]) ?_ 3 _ rfl; refine sqK ?_; refine zL (cs := #[.int .i64 a0_0, .int .i64 a0_1, .int .i64 0, .slice none 0 0]) ?_ 2 _ rfl; refine sqK ?_; refine zL (cs := #[.int .i64 a0_0, .int .i64 0, .int .i64 0, .slice none 0 0]) ?_ 1 _ rfl; refine sqK ?_; refine zL (cs := #[.int .i64 0, .int .i64 0, .int .i64 0, .slice none 0 0]) ?_ 0 _ rfl; refine sqK ?_; exact BK201.out) Try.underlying29 rfl (by kernel_rfl)) rfl ?_
    exact ⟨_, sqE, by refine sqR ?_; exact Kd.zy (Kd.zF (p := ⟨gb201, 3, none⟩) (Kd.zF (p := ⟨gb201, 2, none⟩) (Kd.zF (p := ⟨gb201, 1, none⟩) (Kd.zF (p := ⟨gb201, 0, none⟩) (Kd.zV HO_206003.out BK201.out (by decide)) (fun _ hk => hk.2) (.int .i64 a0_0)) (fun _ hk => hk.2) (.int .i64 a0_1)) (fun _ hk => hk.2) (.int .i64 (t202.length : Int))) (fun _ hk => hk.2) (.slice Ao34 x206003_1.length co34)) (fun _ hk => trivial), sqB⟩

def jg.f (a0 : Int) : Option (Int) := some (Go.bits .and .i64 (wrap64 (IntKind.u64.wrap ((IntKind.u64.wrap ((IntKind.u64.wrap ((Go.bits .and .u64 (IntKind.u64.wrap (((IntKind.u64.wrap ((Go.bits .and .u64 ((IntKind.u64.wrap ((Go.bits .and .u64 (a0 / 2) 6148914691236517205) + (Go.bits .and .u64 a0 6148914691236517205))) / 4) 3689348814741910323) + (Go.bits .and .u64 (IntKind.u64.wrap ((Go.bits .and .u64 (a0 / 2) 6148914691236517205) + (Go.bits .and .u64 a0 6148914691236517205))) 3689348814741910323))) / 16) + (IntKind.u64.wrap ((Go.bits .and .u64 ((IntKind.u64.wrap ((Go.bits .and .u64 (a0 / 2) 6148914691236517205) + (Go.bits .and .u64 a0 6148914691236517205))) / 4) 3689348814741910323) + (Go.bits .and .u64 (IntKind.u64.wrap ((Go.bits .and .u64 (a0 / 2) 6148914691236517205) + (Go.bits .and .u64 a0 6148914691236517205))) 3689348814741910323))))) 1085102592571150095) + ((Go.bits .and .u64 (IntKind.u64.wrap (((IntKind.u64.wrap ((Go.bits .and .u64 ((IntKind.u64.wrap ((Go.bits .and .u64 (a0 / 2) 6148914691236517205) + (Go.bits .and .u64 a0 6148914691236517205))) / 4) 3689348814741910323) + (Go.bits .and .u64 (IntKind.u64.wrap ((Go.bits .and .u64 (a0 / 2) 6148914691236517205) + (Go.bits .and .u64 a0 6148914691236517205))) 3689348814741910323))) / 16) + (IntKind.u64.wrap ((Go.bits .and .u64 ((IntKind.u64.wrap ((Go.bits .and .u64 (a0 / 2) 6148914691236517205) + (Go.bits .and .u64 a0 6148914691236517205))) / 4) 3689348814741910323) + (Go.bits .and .u64 (IntKind.u64.wrap ((Go.bits .and .u64 (a0 / 2) 6148914691236517205) + (Go.bits .and .u64 a0 6148914691236517205))) 3689348814741910323))))) 1085102592571150095) / 256))) + ((IntKind.u64.wrap ((Go.bits .and .u64 (IntKind.u64.wrap (((IntKind.u64.wrap ((Go.bits .and .u64 ((IntKind.u64.wrap ((Go.bits .and .u64 (a0 / 2) 6148914691236517205) + (Go.bits .and .u64 a0 6148914691236517205))) / 4) 3689348814741910323) + (Go.bits .and .u64 (IntKind.u64.wrap ((Go.bits .and .u64 (a0 / 2) 6148914691236517205) + (Go.bits .and .u64 a0 6148914691236517205))) 3689348814741910323))) / 16) + (IntKind.u64.wrap ((Go.bits .and .u64 ((IntKind.u64.wrap ((Go.bits .and .u64 (a0 / 2) 6148914691236517205) + (Go.bits .and .u64 a0 6148914691236517205))) / 4) 3689348814741910323) + (Go.bits .and .u64 (IntKind.u64.wrap ((Go.bits .and .u64 (a0 / 2) 6148914691236517205) + (Go.bits .and .u64 a0 6148914691236517205))) 3689348814741910323))))) 1085102592571150095) + ((Go.bits .and .u64 (IntKind.u64.wrap (((IntKind.u64.wrap ((Go.bits .and .u64 ((IntKind.u64.wrap ((Go.bits .and .u64 (a0 / 2) 6148914691236517205) + (Go.bits .and .u64 a0 6148914691236517205))) / 4) 3689348814741910323) + (Go.bits .and .u64 (IntKind.u64.wrap ((Go.bits .and .u64 (a0 / 2) 6148914691236517205) + (Go.bits .and .u64 a0 6148914691236517205))) 3689348814741910323))) / 16) + (IntKind.u64.wrap ((Go.bits .and .u64 ((IntKind.u64.wrap ((Go.bits .and .u64 (a0 / 2) 6148914691236517205) + (Go.bits .and .u64 a0 6148914691236517205))) / 4) 3689348814741910323) + (Go.bits .and .u64 (IntKind.u64.wrap ((Go.bits .and .u64 (a0 / 2) 6148914691236517205) + (Go.bits .and .u64 a0 6148914691236517205))) 3689348814741910323))))) 1085102592571150095) / 256))) / 65536))) + ((IntKind.u64.wrap ((IntKind.u64.wrap ((Go.bits .and .u64 (IntKind.u64.wrap (((IntKind.u64.wrap ((Go.bits .and .u64 ((IntKind.u64.wrap ((Go.bits .and .u64 (a0 / 2) 6148914691236517205) + (Go.bits .and .u64 a0 6148914691236517205))) / 4) 3689348814741910323) + (Go.bits .and .u64 (IntKind.u64.wrap ((Go.bits .and .u64 (a0 / 2) 6148914691236517205) + (Go.bits .and .u64 a0 6148914691236517205))) 3689348814741910323))) / 16) + (IntKind.u64.wrap ((Go.bits .and .u64 ((IntKind.u64.wrap ((Go.bits .and .u64 (a0 / 2) 6148914691236517205) + (Go.bits .and .u64 a0 6148914691236517205))) / 4) 3689348814741910323) + (Go.bits .and .u64 (IntKind.u64.wrap ((Go.bits .and .u64 (a0 / 2) 6148914691236517205) + (Go.bits .and .u64 a0 6148914691236517205))) 3689348814741910323))))) 1085102592571150095) + ((Go.bits .and .u64 (IntKind.u64.wrap (((IntKind.u64.wrap ((Go.bits .and .u64 ((IntKind.u64.wrap ((Go.bits .and .u64 (a0 / 2) 6148914691236517205) + (Go.bits .and .u64 a0 6148914691236517205))) / 4) 3689348814741910323) + (Go.bits .and .u64 (IntKind.u64.wrap ((Go.bits .and .u64 (a0 / 2) 6148914691236517205) + (Go.bits .and .u64 a0 6148914691236517205))) 3689348814741910323))) / 16) + (IntKind.u64.wrap ((Go.bits .and .u64 ((IntKind.u64.wrap ((Go.bits .and .u64 (a0 / 2) 6148914691236517205) + (Go.bits .and .u64 a0 6148914691236517205))) / 4) 3689348814741910323) + (Go.bits .and .u64 (IntKind.u64.wrap ((Go.bits .and .u64 (a0 / 2) 6148914691236517205) + (Go.bits .and .u64 a0 6148914691236517205))) 3689348814741910323))))) 1085102592571150095) / 256))) + ((IntKind.u64.wrap ((Go.bits .and .u64 (IntKind.u64.wrap (((IntKind.u64.wrap ((Go.bits .and .u64 ((IntKind.u64.wrap ((Go.bits .and .u64 (a0 / 2) 6148914691236517205) + (Go.bits .and .u64 a0 6148914691236517205))) / 4) 3689348814741910323) + (Go.bits .and .u64 (IntKind.u64.wrap ((Go.bits .and .u64 (a0 / 2) 6148914691236517205) + (Go.bits .and .u64 a0 6148914691236517205))) 3689348814741910323))) / 16) + (IntKind.u64.wrap ((Go.bits .and .u64 ((IntKind.u64.wrap ((Go.bits .and .u64 (a0 / 2) 6148914691236517205) + (Go.bits .and .u64 a0 6148914691236517205))) / 4) 3689348814741910323) + (Go.bits .and .u64 (IntKind.u64.wrap ((Go.bits .and .u64 (a0 / 2) 6148914691236517205) + (Go.bits .and .u64 a0 6148914691236517205))) 3689348814741910323))))) 1085102592571150095) + ((Go.bits .and .u64 (IntKind.u64.wrap (((IntKind.u64.wrap ((Go.bits .and .u64 ((IntKind.u64.wrap ((Go.bits .and .u64 (a0 / 2) 6148914691236517205) + (Go.bits .and .u64 a0 6148914691236517205))) / 4) 3689348814741910323) + (Go.bits .and .u64 (IntKind.u64.wrap ((Go.bits .and .u64 (a0 / 2) 6148914691236517205) + (Go.bits .and .u64 a0 6148914691236517205))) 3689348814741910323))) / 16) + (IntKind.u64.wrap ((Go.bits .and .u64 ((IntKind.u64.wrap ((Go.bits .and .u64 (a0 / 2) 6148914691236517205) + (Go.bits .and .u64 a0 6148914691236517205))) / 4) 3689348814741910323) + (Go.bits .and .u64 (IntKind.u64.wrap ((Go.bits .and .u64 (a0 / 2) 6148914691236517205) + (Go.bits .and .u64 a0 6148914691236517205))) 3689348814741910323))))) 1085102592571150095) / 256))) / 65536))) / 4294967296)))) 127)
theorem jg.calls (a0 : Int) (r : Int) (w : World) (h : jg.f a0 = some r) :
  Calls Try.prog 54 #[.int .u64 a0] w fun e w' => e = .returned (.int .i64 r) ∧ zi w w' := by
 have H : (some (Go.bits .and .i64 (wrap64 (IntKind.u64.wrap ((IntKind.u64.wrap ((IntKind.u64.wrap ((Go.bits .and .u64 (IntKind.u64.wrap (((IntKind.u64.wrap ((Go.bits .and .u64 ((IntKind.u64.wrap ((Go.bits .and .u64 (a0 / 2) 6148914691236517205) + (Go.bits .and .u64 a0 6148914691236517205))) / 4) 3689348814741910323) + (Go.bits .and .u64 (IntKind.u64.wrap ((Go.bits .and .u64 (a0 / 2) 6148914691236517205) + (Go.bits .and .u64 a0 6148914691236517205))) 3689348814741910323))) / 16) + (IntKind.u64.wrap ((Go.bits .and .u64 ((IntKind.u64.wrap ((Go.bits .and .u64 (a0 / 2) 6148914691236517205) + (Go.bits .and .u64 a0 6148914691236517205))) / 4) 3689348814741910323) + (Go.bits .and .u64 (IntKind.u64.wrap ((Go.bits .and .u64 (a0 / 2) 6148914691236517205) + (Go.bits .and .u64 a0 6148914691236517205))) 3689348814741910323))))) 1085102592571150095) + ((Go.bits .and .u64 (IntKind.u64.wrap (((IntKind.u64.wrap ((Go.bits .and .u64 ((IntKind.u64.wrap ((Go.bits .and .u64 (a0 / 2) 6148914691236517205) + (Go.bits .and .u64 a0 6148914691236517205))) / 4) 3689348814741910323) + (Go.bits .and .u64 (IntKind.u64.wrap ((Go.bits .and .u64 (a0 / 2) 6148914691236517205) + (Go.bits .and .u64 a0 6148914691236517205))) 3689348814741910323))) / 16) + (IntKind.u64.wrap ((Go.bits .and .u64 ((IntKind.u64.wrap ((Go.bits .and .u64 (a0 / 2) 6148914691236517205) + (Go.bits .and .u64 a0 6148914691236517205))) / 4) 3689348814741910323) + (Go.bits .and .u64 (IntKind.u64.wrap ((Go.bits .and .u64 (a0 / 2) 6148914691236517205) + (Go.bits .and .u64 a0 6148914691236517205))) 3689348814741910323))))) 1085102592571150095) / 256))) + ((IntKind.u64.wrap ((Go.bits .and .u64 (IntKind.u64.wrap (((IntKind.u64.wrap ((Go.bits .and .u64 ((IntKind.u64.wrap ((Go.bits .and .u64 (a0 / 2) 6148914691236517205) + (Go.bits .and .u64 a0 6148914691236517205))) / 4) 3689348814741910323) + (Go.bits .and .u64 (IntKind.u64.wrap ((Go.bits .and .u64 (a0 / 2) 6148914691236517205) + (Go.bits .and .u64 a0 6148914691236517205))) 3689348814741910323))) / 16) + (IntKind.u64.wrap ((Go.bits .and .u64 ((IntKind.u64.wrap ((Go.bits .and .u64 (a0 / 2) 6148914691236517205) + (Go.bits .and .u64 a0 6148914691236517205))) / 4) 3689348814741910323) + (Go.bits .and .u64 (IntKind.u64.wrap ((Go.bits .and .u64 (a0 / 2) 6148914691236517205) + (Go.bits .and .u64 a0 6148914691236517205))) 3689348814741910323))))) 1085102592571150095) + ((Go.bits .and .u64 (IntKind.u64.wrap (((IntKind.u64.wrap ((Go.bits .and .u64 ((IntKind.u64.wrap ((Go.bits .and .u64 (a0 / 2) 6148914691236517205) + (Go.bits .and .u64 a0 6148914691236517205))) / 4) 3689348814741910323) + (Go.bits .and .u64 (IntKind.u64.wrap ((Go.bits .and .u64 (a0 / 2) 6148914691236517205) + (Go.bits .and .u64 a0 6148914691236517205))) 3689348814741910323))) / 16) + (IntKind.u64.wrap ((Go.bits .and .u64 ((IntKind.u64.wrap ((Go.bits .and .u64 (a0 / 2) 6148914691236517205) + (Go.bits .and .u64 a0 6148914691236517205))) / 4) 3689348814741910323) + (Go.bits .and .u64 (IntKind.u64.wrap ((Go.bits .and .u64 (a0 / 2) 6148914691236517205) + (Go.bits .and .u64 a0 6148914691236517205))) 3689348814741910323))))) 1085102592571150095) / 256))) / 65536))) + ((IntKind.u64.wrap ((IntKind.u64.wrap ((Go.bits .and .u64 (IntKind.u64.wrap (((IntKind.u64.wrap ((Go.bits .and .u64 ((IntKind.u64.wrap ((Go.bits .and .u64 (a0 / 2) 6148914691236517205) + (Go.bits .and .u64 a0 6148914691236517205))) / 4) 3689348814741910323) + (Go.bits .and .u64 (IntKind.u64.wrap ((Go.bits .and .u64 (a0 / 2) 6148914691236517205) + (Go.bits .and .u64 a0 6148914691236517205))) 3689348814741910323))) / 16) + (IntKind.u64.wrap ((Go.bits .and .u64 ((IntKind.u64.wrap ((Go.bits .and .u64 (a0 / 2) 6148914691236517205) + (Go.bits .and .u64 a0 6148914691236517205))) / 4) 3689348814741910323) + (Go.bits .and .u64 (IntKind.u64.wrap ((Go.bits .and .u64 (a0 / 2) 6148914691236517205) + (Go.bits .and .u64 a0 6148914691236517205))) 3689348814741910323))))) 1085102592571150095) + ((Go.bits .and .u64 (IntKind.u64.wrap (((IntKind.u64.wrap ((Go.bits .and .u64 ((IntKind.u64.wrap ((Go.bits .and .u64 (a0 / 2) 6148914691236517205) + (Go.bits .and .u64 a0 6148914691236517205))) / 4) 3689348814741910323) + (Go.bits .and .u64 (IntKind.u64.wrap ((Go.bits .and .u64 (a0 / 2) 6148914691236517205) + (Go.bits .and .u64 a0 6148914691236517205))) 3689348814741910323))) / 16) + (IntKind.u64.wrap ((Go.bits .and .u64 ((IntKind.u64.wrap ((Go.bits .and .u64 (a0 / 2) 6148914691236517205) + (Go.bits .and .u64 a0 6148914691236517205))) / 4) 3689348814741910323) + (Go.bits .and .u64 (IntKind.u64.wrap ((Go.bits .and .u64 (a0 / 2) 6148914691236517205) + (Go.bits .and .u64 a0 6148914691236517205))) 3689348814741910323))))) 1085102592571150095) / 256))) + ((IntKind.u64.wrap ((Go.bits .and .u64 (IntKind.u64.wrap (((IntKind.u64.wrap ((Go.bits .and .u64 ((IntKind.u64.wrap ((Go.bits .and .u64 (a0 / 2) 6148914691236517205) + (Go.bits .and .u64 a0 6148914691236517205))) / 4) 3689348814741910323) + (Go.bits .and .u64 (IntKind.u64.wrap ((Go.bits .and .u64 (a0 / 2) 6148914691236517205) + (Go.bits .and .u64 a0 6148914691236517205))) 3689348814741910323))) / 16) + (IntKind.u64.wrap ((Go.bits .and .u64 ((IntKind.u64.wrap ((Go.bits .and .u64 (a0 / 2) 6148914691236517205) + (Go.bits .and .u64 a0 6148914691236517205))) / 4) 3689348814741910323) + (Go.bits .and .u64 (IntKind.u64.wrap ((Go.bits .and .u64 (a0 / 2) 6148914691236517205) + (Go.bits .and .u64 a0 6148914691236517205))) 3689348814741910323))))) 1085102592571150095) + ((Go.bits .and .u64 (IntKind.u64.wrap (((IntKind.u64.wrap ((Go.bits .and .u64 ((IntKind.u64.wrap ((Go.bits .and .u64 (a0 / 2) 6148914691236517205) + (Go.bits .and .u64 a0 6148914691236517205))) / 4) 3689348814741910323) + (Go.bits .and .u64 (IntKind.u64.wrap ((Go.bits .and .u64 (a0 / 2) 6148914691236517205) + (Go.bits .and .u64 a0 6148914691236517205))) 3689348814741910323))) / 16) + (IntKind.u64.wrap ((Go.bits .and .u64 ((IntKind.u64.wrap ((Go.bits .and .u64 (a0 / 2) 6148914691236517205) + (Go.bits .and .u64 a0 6148914691236517205))) / 4) 3689348814741910323) + (Go.bits .and .u64 (IntKind.u64.wrap ((Go.bits .and .u64 (a0 / 2) 6148914691236517205) + (Go.bits .and .u64 a0 6148914691236517205))) 3689348814741910323))))) 1085102592571150095) / 256))) / 65536))) / 4294967296)))) 127)) = some r := h
 clear h
 obtain rfl := Option.some.inj H
 go_enter Try.func54, Try.ntmps54
 go_wp2
 go_ret
 exact ⟨sqD, by repeat (first | exact zi.refl _ | apply zi.step)⟩

def qe.l0 : Nat → List Int → List Int → Int → Option (Bool)
 | 0, _, _, _ => none
 | k + 1, x0, x1, x5 => if x5 < (x0.length : Int) then (if 0 ≤ x5 then (if x5 < (x1.length : Int) then (if (rd x0 x5) = (rd x1 x5) then (qe.l0 k x0 x1 (wrap64 (x5 + 1))) else (some false)) else (none)) else (none)) else (some true)
def qe.f (k : Nat) (l0 : List Int) (l1 : List Int) : Option (Bool) := if (l0.length : Int) = (l1.length : Int) then (qe.l0 k l0 l1 0) else (some false)
theorem qe.calls (k : Nat) (A0 : Option Addr) (c0 : Nat) (l0 : List Int) (A1 : Option Addr) (c1 : Nat) (l1 : List Int) (r : Bool) (w : World) (hr0 : Kd.C (Kd.int .i64) w A0 l0.length l0) (hc0 : l0.length ≤ c0) (hr1 : Kd.C (Kd.int .i64) w A1 l1.length l1) (hc1 : l1.length ≤ c1) (h : qe.f k l0 l1 = some r) :
  Calls Try.prog 23 #[.slice A0 l0.length c0, .slice A1 l1.length c1] w fun e w' => e = .returned (.bool r) ∧ zi w w' := by
 have HR0 := Aside0.mk hr0
 have HC0 := Aside0.mk hc0
 clear hr0 hc0
 have HR1 := Aside0.mk hr1
 have HC1 := Aside0.mk hc1
 clear hr1 hc1
 have H : (if (l0.length : Int) = (l1.length : Int) then (qe.l0 k l0 l1 0) else (some false)) = some r := h
 clear h
 by_cases c3 : (l0.length : Int) = (l1.length : Int)
 ·rw [if_pos c3] at H
  have c3b0 : ((l0.length : Int) == (l1.length : Int)) = true := beq_iff_eq.mpr c3
  have c3b1 : ((l0.length : Int) != (l1.length : Int)) = false := bne_eq_false_iff_eq.mpr c3
  have c3b2 : (l0.length == l1.length) = true := by first | simpa using c3 | (simp at c3 ⊢; omega)
  clear c3
  have H' := Aside0.mk H
  clear H
  go_enter Try.func23, Try.ntmps23
  go_wp2
  repeat (go_quiet (fail); try go_wp2)
  go_loopg [5] k (fun kq v5 w' => ∃ (x5_1 : Int), v5 = .int .i64 x5_1 ∧ Aside0 (qe.l0 kq l0 l1 x5_1 = some r) ∧ Aside0 (kq ≤ k) ∧ zi w w')
  case atStart => exact ⟨(0), (sqD), H', ⟨Nat.le_refl _⟩, by repeat (first | exact zi.refl _ | apply zi.step)⟩
  case round =>
   clear H'
   try clear c1
   try clear c2
   try clear p2
   try clear c3
   try clear c3b0
   try clear c3b1
   try clear c3b2
   obtain ⟨x5_1, rfl, HA, HK1, ⟨m1, rfl⟩⟩ := hrel
   cases gk with
   | zero => exact absurd HA.out (by simp [qe.l0])
   | succ k1 =>
    have H := HA.out
    clear HA
    simp only [qe.l0] at H
    by_cases c4 : x5_1 < (l0.length : Int)
    ·rw [if_pos c4] at H
     have c4b0 : decide (x5_1 < (l0.length : Int)) = true := decide_eq_true c4
     clear c4
     by_cases c5 : 0 ≤ x5_1
     ·rw [if_pos c5] at H
      have c5b0 : decide (0 ≤ x5_1) = true := decide_eq_true c5
      clear c5
      by_cases c6 : x5_1 < (l1.length : Int)
      ·rw [if_pos c6] at H
       have c6b0 : decide (x5_1 < (l1.length : Int)) = true := decide_eq_true c6
       clear c6
       by_cases c7 : (rd l0 x5_1) = (rd l1 x5_1)
       ·rw [if_pos c7] at H
        have c7b0 : ((rd l0 x5_1) == (rd l1 x5_1)) = true := beq_iff_eq.mpr c7
        have c7b1 : ((rd l0 x5_1) != (rd l1 x5_1)) = false := bne_eq_false_iff_eq.mpr c7
        clear c7
        have H' := Aside0.mk H
        clear H
        have p245 : 0 ≤ (x5_1 : Int) := of_decide_eq_true sqA
        have q245 : x5_1 < (l0.length : Int) := of_decide_eq_true sqA
        obtain ⟨ad245, e245, hx245_0⟩ := Kd.qm HR0.out x5_1 p245 q245
        cases e245
        replace p245 := eq_true p245
        replace q245 := eq_true q245
        have p246 : 0 ≤ (x5_1 : Int) := of_decide_eq_true sqA
        have q246 : x5_1 < (l1.length : Int) := of_decide_eq_true sqA
        obtain ⟨ad246, e246, hx246_0⟩ := Kd.qm HR1.out x5_1 p246 q246
        cases e246
        replace p246 := eq_true p246
        replace q246 := eq_true q246
        go_wp2
        repeat (go_quiet (fail); try go_wp2)
        go_roundg k1
        case measure => have := HK1.out; omega
        case rel => exact ⟨(wrap64 (x5_1 + 1)), (sqD), H', ⟨by have := HK1.out; omega⟩, by repeat (first | exact zi.refl _ | apply zi.step)⟩
       ·rw [if_neg c7] at H
        have c7b0 : ((rd l0 x5_1) == (rd l1 x5_1)) = false := beq_eq_false_iff_ne.mpr c7
        have c7b1 : ((rd l0 x5_1) != (rd l1 x5_1)) = true := bne_iff_ne.mpr c7
        obtain rfl := Option.some.inj H
        have p245 : 0 ≤ (x5_1 : Int) := of_decide_eq_true sqA
        have q245 : x5_1 < (l0.length : Int) := of_decide_eq_true sqA
        obtain ⟨ad245, e245, hx245_0⟩ := Kd.qm HR0.out x5_1 p245 q245
        cases e245
        replace p245 := eq_true p245
        replace q245 := eq_true q245
        have p246 : 0 ≤ (x5_1 : Int) := of_decide_eq_true sqA
        have q246 : x5_1 < (l1.length : Int) := of_decide_eq_true sqA
        obtain ⟨ad246, e246, hx246_0⟩ := Kd.qm HR1.out x5_1 p246 q246
        cases e246
        replace p246 := eq_true p246
        replace q246 := eq_true q246
        go_wp2
        repeat (go_quiet (fail); try go_wp2)
        go_ret
        exact ⟨sqD, by repeat (first | exact zi.refl _ | apply zi.step)⟩
      ·rw [if_neg c6] at H
       exact absurd H (by simp)
     ·rw [if_neg c5] at H
      exact absurd H (by simp)
    ·rw [if_neg c4] at H
     have c4b0 : decide (x5_1 < (l0.length : Int)) = false := decide_eq_false c4
     clear c4
     obtain rfl := Option.some.inj H
     go_wp2
     repeat (go_quiet (fail); try go_wp2)
     go_ret
     exact ⟨sqD, by repeat (first | exact zi.refl _ | apply zi.step)⟩
 ·rw [if_neg c3] at H
  have c3b0 : ((l0.length : Int) == (l1.length : Int)) = false := beq_eq_false_iff_ne.mpr c3
  have c3b1 : ((l0.length : Int) != (l1.length : Int)) = true := bne_iff_ne.mpr c3
  have c3b2 : (l0.length == l1.length) = false := by first | simpa using c3 | (simp at c3 ⊢; omega)
  obtain rfl := Option.some.inj H
  go_enter Try.func23, Try.ntmps23
  go_wp2
  repeat (go_quiet (fail); try go_wp2)
  go_ret
  exact ⟨sqD, by repeat (first | exact zi.refl _ | apply zi.step)⟩

def zw.f (k : Nat) (a0_0 : Int) (l0_1 : List Int) (a1_0 : Int) (l1_1 : List Int) : Option (Bool) := if a0_0 = a1_0 then ((qe.f k l0_1 l1_1).bind fun t249 => (if t249 = true then (some true) else (some false))) else (some false)
theorem zw.calls (k : Nat) (a0_0 : Int) (A0_1 : Option Addr) (c0_1 : Nat) (l0_1 : List Int) (a1_0 : Int) (A1_1 : Option Addr) (c1_1 : Nat) (l1_1 : List Int) (r : Bool) (w : World) (hr0_1 : Kd.C (Kd.int .i64) w A0_1 l0_1.length l0_1) (hc0_1 : l0_1.length ≤ c0_1) (hr1_1 : Kd.C (Kd.int .i64) w A1_1 l1_1.length l1_1) (hc1_1 : l1_1.length ≤ c1_1) (h : zw.f k a0_0 l0_1 a1_0 l1_1 = some r) :
  Calls Try.prog 8 #[.agg #[.int .i64 a0_0, .slice A0_1 l0_1.length c0_1], .agg #[.int .i64 a1_0, .slice A1_1 l1_1.length c1_1]] w fun e w' => e = .returned (.bool r) ∧ Below w.heap.size w w' := by
 have hu27 := Try.underlying27
 have HR0_1 := Aside0.mk hr0_1
 have HC0_1 := Aside0.mk hc0_1
 clear hr0_1 hc0_1
 have HR1_1 := Aside0.mk hr1_1
 have HC1_1 := Aside0.mk hc1_1
 clear hr1_1 hc1_1
 have HB := Aside0.mk (Below.refl w.heap.size w)
 have H : (if a0_0 = a1_0 then ((qe.f k l0_1 l1_1).bind fun t249 => (if t249 = true then (some true) else (some false))) else (some false)) = some r := h
 clear h
 by_cases c3 : a0_0 = a1_0
 ·rw [if_pos c3] at H
  have c3b0 : (a0_0 == a1_0) = true := beq_iff_eq.mpr c3
  have c3b1 : (a0_0 != a1_0) = false := bne_eq_false_iff_eq.mpr c3
  clear c3
  replace H := Option.bind_eq_some_iff.mp H
  obtain ⟨t249, A40, H⟩ := H
  replace H : (if t249 = true then (some true) else (some false)) = some r := H
  have A4 := Aside0.mk A40
  clear A40
  by_cases c5 : t249 = true
  ·subst c5
   have H1 : (some true) = some r := by rw [if_pos rfl] at H; exact H
   clear H
   have H := H1
   clear H1
   obtain rfl := Option.some.inj H
   go_enter Try.func8, Try.ntmps8
   go_wp2_with (first | ((with_reducible refine zq (N := 2) rfl ?_); refine zo ?hg (N := 2) ?hd (cs := #[.int .i64 a0_0, .slice A0_1 l0_1.length c0_1]) (t := 27) ?hr ?_; (case hd => rfl); (case hg => rfl); (case hr => exact sqG); intro gb247 hg w6 hbox hb; have n0_ := Aside0.mk (ze sqB hb); have n1_ := Aside0.mk (hbox); have n2_ := Aside0.mk ((sqS hg : w.heap.size ≤ gb247)); have n3_ := Aside0.mk ((sqS hg : w.heap.size ≤ gb247)); clear HB; have HB := n0_; have BK247 := n1_; have GW247 := n2_; have GE247 := n3_; clear n0_ n1_ n2_ n3_; clear hb hbox hg) | ((with_reducible refine zq (N := 3) rfl ?_); refine zo ?hg (N := 3) ?hd (cs := #[.int .i64 a1_0, .slice A1_1 l1_1.length c1_1]) (t := 27) ?hr ?_; (case hd => rfl); (case hg => rfl); (case hr => exact sqG); intro gb248 hg w7 hbox hb; have n0_ := Aside0.mk (zd (g := gb247) (o := .cells #[.int .i64 a0_0, .slice A0_1 l0_1.length c0_1] 27 (0, 0)) (sqK BK247.out) hb); have n1_ := Aside0.mk (ze sqB hb); have n2_ := Aside0.mk (hbox); have n3_ := Aside0.mk ((sqS hg : w.heap.size ≤ gb248)); have n4_ := Aside0.mk ((sqS hg : w.heap.size ≤ gb248)); have n5_ := Aside0.mk ((by rw [hg]; exact Nat.ne_of_lt (zz (g := gb247) (o := .cells #[.int .i64 a0_0, .slice A0_1 l0_1.length c0_1] 27 (0, 0)) (sqK BK247.out)) : gb247 ≠ gb248)); have n6_ := Aside0.mk ((by rw [hg]; exact Nat.ne_of_gt (zz (g := gb247) (o := .cells #[.int .i64 a0_0, .slice A0_1 l0_1.length c0_1] 27 (0, 0)) (sqK BK247.out)) : gb248 ≠ gb247)); clear BK247; clear HB; have BK247 := n0_; have HB := n1_; have BK248 := n2_; have GW248 := n3_; have GE248 := n4_; have NB247_248 := n5_; have NB248_247 := n6_; clear n0_ n1_ n2_ n3_ n4_ n5_ n6_; clear hb hbox hg; have hnb8 := NB247_248.out; have hnc8 := NB248_247.out; have hcz9_0 : w7.cell? ⟨gb247, 0, none⟩ = some (.int .i64 a0_0) := (zb BK247.out 0).trans rfl; have hcz9_1 : w7.cell? ⟨gb247, 1, none⟩ = some (.slice A0_1 l0_1.length c0_1) := (zb BK247.out 1).trans rfl; have hfz9_0 := za BK247.out 0; have hfz9_1 := za BK247.out 1; have hcz10_0 : w7.cell? ⟨gb248, 0, none⟩ = some (.int .i64 a1_0) := (zb BK248.out 0).trans rfl; have hcz10_1 : w7.cell? ⟨gb248, 1, none⟩ = some (.slice A1_1 l1_1.length c1_1) := (zb BK248.out 1).trans rfl; have hfz10_0 := za BK248.out 0; have hfz10_1 := za BK248.out 1) | ((with_reducible refine zf (f := 23) rfl ?_); refine zu (some 14) rfl rfl Try.func23 (by kernel_rfl) rfl #[.slice A0_1 l0_1.length c0_1, .slice A1_1 l1_1.length c1_1] rfl sqM ?_; (with_reducible refine (qe.calls k _ _ l0_1 _ _ l1_1 true _ ?side1 ?side2 ?side3 ?side4 A4.out).mono ?_); (case side1 => exact sqC (Kd.zI HR0_1.out HB.out)); (case side2 => exact HC0_1.out); (case side3 => exact sqC (Kd.zI HR1_1.out HB.out)); (case side4 => exact HC1_1.out); rintro e w' ⟨rfl, ⟨nd, rfl⟩⟩; refine ⟨_, rfl, ?_⟩))
   go_ret
   exact ⟨sqE, sqB⟩
  ·replace c5 := Bool.eq_false_iff.mpr c5
   subst c5
   have H1 : (some false) = some r := by rw [if_neg (show ¬ (false = true) by decide)] at H; exact H
   clear H
   have H := H1
   clear H1
   obtain rfl := Option.some.inj H
   go_enter Try.func8, Try.ntmps8
   go_wp2_with (first | ((with_reducible refine zq (N := 2) rfl ?_); refine zo ?hg (N := 2) ?hd (cs := #[.int .i64 a0_0, .slice A0_1 l0_1.length c0_1]) (t := 27) ?hr ?_; (case hd => rfl); (case hg => rfl); (case hr => exact sqG); intro gb247 hg w11 hbox hb; have n0_ := Aside0.mk (ze sqB hb); have n1_ := Aside0.mk (hbox); have n2_ := Aside0.mk ((sqS hg : w.heap.size ≤ gb247)); have n3_ := Aside0.mk ((sqS hg : w.heap.size ≤ gb247)); clear HB; have HB := n0_; have BK247 := n1_; have GW247 := n2_; have GE247 := n3_; clear n0_ n1_ n2_ n3_; clear hb hbox hg) | ((with_reducible refine zq (N := 3) rfl ?_); refine zo ?hg (N := 3) ?hd (cs := #[.int .i64 a1_0, .slice A1_1 l1_1.length c1_1]) (t := 27) ?hr ?_; (case hd => rfl); (case hg => rfl); (case hr => exact sqG); intro gb248 hg w12 hbox hb; have n0_ := Aside0.mk (zd (g := gb247) (o := .cells #[.int .i64 a0_0, .slice A0_1 l0_1.length c0_1] 27 (0, 0)) (sqK BK247.out) hb); have n1_ := Aside0.mk (ze sqB hb); have n2_ := Aside0.mk (hbox); have n3_ := Aside0.mk ((sqS hg : w.heap.size ≤ gb248)); have n4_ := Aside0.mk ((sqS hg : w.heap.size ≤ gb248)); have n5_ := Aside0.mk ((by rw [hg]; exact Nat.ne_of_lt (zz (g := gb247) (o := .cells #[.int .i64 a0_0, .slice A0_1 l0_1.length c0_1] 27 (0, 0)) (sqK BK247.out)) : gb247 ≠ gb248)); have n6_ := Aside0.mk ((by rw [hg]; exact Nat.ne_of_gt (zz (g := gb247) (o := .cells #[.int .i64 a0_0, .slice A0_1 l0_1.length c0_1] 27 (0, 0)) (sqK BK247.out)) : gb248 ≠ gb247)); clear BK247; clear HB; have BK247 := n0_; have HB := n1_; have BK248 := n2_; have GW248 := n3_; have GE248 := n4_; have NB247_248 := n5_; have NB248_247 := n6_; clear n0_ n1_ n2_ n3_ n4_ n5_ n6_; clear hb hbox hg; have hnb13 := NB247_248.out; have hnc13 := NB248_247.out; have hcz14_0 : w12.cell? ⟨gb247, 0, none⟩ = some (.int .i64 a0_0) := (zb BK247.out 0).trans rfl; have hcz14_1 : w12.cell? ⟨gb247, 1, none⟩ = some (.slice A0_1 l0_1.length c0_1) := (zb BK247.out 1).trans rfl; have hfz14_0 := za BK247.out 0; have hfz14_1 := za BK247.out 1; have hcz15_0 : w12.cell? ⟨gb248, 0, none⟩ = some (.int .i64 a1_0) := (zb BK248.out 0).trans rfl; have hcz15_1 : w12.cell? ⟨gb248, 1, none⟩ = some (.slice A1_1 l1_1.length c1_1) := (zb BK248.out 1).trans rfl; have hfz15_0 := za BK248.out 0; have hfz15_1 := za BK248.out 1) | ((with_reducible refine zf (f := 23) rfl ?_); refine zu (some 14) rfl rfl Try.func23 (by kernel_rfl) rfl #[.slice A0_1 l0_1.length c0_1, .slice A1_1 l1_1.length c1_1] rfl sqM ?_; (with_reducible refine (qe.calls k _ _ l0_1 _ _ l1_1 false _ ?side1 ?side2 ?side3 ?side4 A4.out).mono ?_); (case side1 => exact sqC (Kd.zI HR0_1.out HB.out)); (case side2 => exact HC0_1.out); (case side3 => exact sqC (Kd.zI HR1_1.out HB.out)); (case side4 => exact HC1_1.out); rintro e w' ⟨rfl, ⟨nd, rfl⟩⟩; refine ⟨_, rfl, ?_⟩))
   go_ret
   exact ⟨sqE, sqB⟩
 ·rw [if_neg c3] at H
  have c3b0 : (a0_0 == a1_0) = false := beq_eq_false_iff_ne.mpr c3
  have c3b1 : (a0_0 != a1_0) = true := bne_iff_ne.mpr c3
  obtain rfl := Option.some.inj H
  go_enter Try.func8, Try.ntmps8
  go_wp2_with (first | ((with_reducible refine zq (N := 2) rfl ?_); refine zo ?hg (N := 2) ?hd (cs := #[.int .i64 a0_0, .slice A0_1 l0_1.length c0_1]) (t := 27) ?hr ?_; (case hd => rfl); (case hg => rfl); (case hr => exact sqG); intro gb247 hg w16 hbox hb; have n0_ := Aside0.mk (ze sqB hb); have n1_ := Aside0.mk (hbox); have n2_ := Aside0.mk ((sqS hg : w.heap.size ≤ gb247)); have n3_ := Aside0.mk ((sqS hg : w.heap.size ≤ gb247)); clear HB; have HB := n0_; have BK247 := n1_; have GW247 := n2_; have GE247 := n3_; clear n0_ n1_ n2_ n3_; clear hb hbox hg) | ((with_reducible refine zq (N := 3) rfl ?_); refine zo ?hg (N := 3) ?hd (cs := #[.int .i64 a1_0, .slice A1_1 l1_1.length c1_1]) (t := 27) ?hr ?_; (case hd => rfl); (case hg => rfl); (case hr => exact sqG); intro gb248 hg w17 hbox hb; have n0_ := Aside0.mk (zd (g := gb247) (o := .cells #[.int .i64 a0_0, .slice A0_1 l0_1.length c0_1] 27 (0, 0)) (sqK BK247.out) hb); have n1_ := Aside0.mk (ze sqB hb); have n2_ := Aside0.mk (hbox); have n3_ := Aside0.mk ((sqS hg : w.heap.size ≤ gb248)); have n4_ := Aside0.mk ((sqS hg : w.heap.size ≤ gb248)); have n5_ := Aside0.mk ((by rw [hg]; exact Nat.ne_of_lt (zz (g := gb247) (o := .cells #[.int .i64 a0_0, .slice A0_1 l0_1.length c0_1] 27 (0, 0)) (sqK BK247.out)) : gb247 ≠ gb248)); have n6_ := Aside0.mk ((by rw [hg]; exact Nat.ne_of_gt (zz (g := gb247) (o := .cells #[.int .i64 a0_0, .slice A0_1 l0_1.length c0_1] 27 (0, 0)) (sqK BK247.out)) : gb248 ≠ gb247)); clear BK247; clear HB; have BK247 := n0_; have HB := n1_; have BK248 := n2_; have GW248 := n3_; have GE248 := n4_; have NB247_248 := n5_; have NB248_247 := n6_; clear n0_ n1_ n2_ n3_ n4_ n5_ n6_; clear hb hbox hg; have hnb18 := NB247_248.out; have hnc18 := NB248_247.out; have hcz19_0 : w17.cell? ⟨gb247, 0, none⟩ = some (.int .i64 a0_0) := (zb BK247.out 0).trans rfl; have hcz19_1 : w17.cell? ⟨gb247, 1, none⟩ = some (.slice A0_1 l0_1.length c0_1) := (zb BK247.out 1).trans rfl; have hfz19_0 := za BK247.out 0; have hfz19_1 := za BK247.out 1; have hcz20_0 : w17.cell? ⟨gb248, 0, none⟩ = some (.int .i64 a1_0) := (zb BK248.out 0).trans rfl; have hcz20_1 : w17.cell? ⟨gb248, 1, none⟩ = some (.slice A1_1 l1_1.length c1_1) := (zb BK248.out 1).trans rfl; have hfz20_0 := za BK248.out 0; have hfz20_1 := za BK248.out 1))
  go_ret
  exact ⟨sqE, sqB⟩

def qo.f (k : Nat) (a0_0 : Int) (a0_1 : Int) (a0_2 : Int) (l0_3 : List Int) (a1_0 : Int) (a1_1 : Int) (a1_2 : Int) (l1_3 : List Int) : Option (Bool) := if a0_0 = a1_0 then (if a0_1 = a1_1 then (if a0_2 = a1_2 then ((qe.f k l0_3 l1_3).bind fun t252 => (if t252 = true then (some true) else (some false))) else (some false)) else (some false)) else (some false)
theorem qo.calls (k : Nat) (a0_0 : Int) (a0_1 : Int) (a0_2 : Int) (A0_3 : Option Addr) (c0_3 : Nat) (l0_3 : List Int) (a1_0 : Int) (a1_1 : Int) (a1_2 : Int) (A1_3 : Option Addr) (c1_3 : Nat) (l1_3 : List Int) (r : Bool) (w : World) (hr0_3 : Kd.C (Kd.int .i64) w A0_3 l0_3.length l0_3) (hc0_3 : l0_3.length ≤ c0_3) (hr1_3 : Kd.C (Kd.int .i64) w A1_3 l1_3.length l1_3) (hc1_3 : l1_3.length ≤ c1_3) (h : qo.f k a0_0 a0_1 a0_2 l0_3 a1_0 a1_1 a1_2 l1_3 = some r) :
  Calls Try.prog 9 #[.agg #[.int .i64 a0_0, .int .i64 a0_1, .int .i64 a0_2, .slice A0_3 l0_3.length c0_3], .agg #[.int .i64 a1_0, .int .i64 a1_1, .int .i64 a1_2, .slice A1_3 l1_3.length c1_3]] w fun e w' => e = .returned (.bool r) ∧ Below w.heap.size w w' := by
 have hu29 := Try.underlying29
 have HR0_3 := Aside0.mk hr0_3
 have HC0_3 := Aside0.mk hc0_3
 clear hr0_3 hc0_3
 have HR1_3 := Aside0.mk hr1_3
 have HC1_3 := Aside0.mk hc1_3
 clear hr1_3 hc1_3
 have HB := Aside0.mk (Below.refl w.heap.size w)
 have H : (if a0_0 = a1_0 then (if a0_1 = a1_1 then (if a0_2 = a1_2 then ((qe.f k l0_3 l1_3).bind fun t252 => (if t252 = true then (some true) else (some false))) else (some false)) else (some false)) else (some false)) = some r := h
 clear h
 by_cases c3 : a0_0 = a1_0
 ·rw [if_pos c3] at H
  have c3b0 : (a0_0 == a1_0) = true := beq_iff_eq.mpr c3
  have c3b1 : (a0_0 != a1_0) = false := bne_eq_false_iff_eq.mpr c3
  clear c3
  by_cases c4 : a0_1 = a1_1
  ·rw [if_pos c4] at H
   have c4b0 : (a0_1 == a1_1) = true := beq_iff_eq.mpr c4
   have c4b1 : (a0_1 != a1_1) = false := bne_eq_false_iff_eq.mpr c4
   clear c4
   by_cases c5 : a0_2 = a1_2
   ·rw [if_pos c5] at H
    have c5b0 : (a0_2 == a1_2) = true := beq_iff_eq.mpr c5
    have c5b1 : (a0_2 != a1_2) = false := bne_eq_false_iff_eq.mpr c5
    clear c5
    replace H := Option.bind_eq_some_iff.mp H
    obtain ⟨t252, A60, H⟩ := H
    replace H : (if t252 = true then (some true) else (some false)) = some r := H
    have A6 := Aside0.mk A60
    clear A60
    by_cases c7 : t252 = true
    ·subst c7
     have H1 : (some true) = some r := by rw [if_pos rfl] at H; exact H
     clear H
     have H := H1
     clear H1
     obtain rfl := Option.some.inj H
     go_enter Try.func9, Try.ntmps9
     go_wp2_with (first | ((with_reducible refine zq (N := 2) rfl ?_); refine zo ?hg (N := 2) ?hd (cs := #[.int .i64 a0_0, .int .i64 a0_1, .int .i64 a0_2, .slice A0_3 l0_3.length c0_3]) (t := 29) ?hr ?_; (case hd => rfl); (case hg => rfl); (case hr => exact sqG); intro gb250 hg w8 hbox hb; have n0_ := Aside0.mk (ze sqB hb); have n1_ := Aside0.mk (hbox); have n2_ := Aside0.mk ((sqS hg : w.heap.size ≤ gb250)); have n3_ := Aside0.mk ((sqS hg : w.heap.size ≤ gb250)); clear HB; have HB := n0_; have BK250 := n1_; have GW250 := n2_; have GE250 := n3_; clear n0_ n1_ n2_ n3_; clear hb hbox hg) | ((with_reducible refine zq (N := 3) rfl ?_); refine zo ?hg (N := 3) ?hd (cs := #[.int .i64 a1_0, .int .i64 a1_1, .int .i64 a1_2, .slice A1_3 l1_3.length c1_3]) (t := 29) ?hr ?_; (case hd => rfl); (case hg => rfl); (case hr => exact sqG); intro gb251 hg w9 hbox hb; have n0_ := Aside0.mk (zd (g := gb250) (o := .cells #[.int .i64 a0_0, .int .i64 a0_1, .int .i64 a0_2, .slice A0_3 l0_3.length c0_3] 29 (0, 0)) (sqK BK250.out) hb); have n1_ := Aside0.mk (ze sqB hb); have n2_ := Aside0.mk (hbox); have n3_ := Aside0.mk ((sqS hg : w.heap.size ≤ gb251)); have n4_ := Aside0.mk ((sqS hg : w.heap.size ≤ gb251)); have n5_ := Aside0.mk ((by rw [hg]; exact Nat.ne_of_lt (zz (g := gb250) (o := .cells #[.int .i64 a0_0, .int .i64 a0_1, .int .i64 a0_2, .slice A0_3 l0_3.length c0_3] 29 (0, 0)) (sqK BK250.out)) : gb250 ≠ gb251)); have n6_ := Aside0.mk ((by rw [hg]; exact Nat.ne_of_gt (zz (g := gb250) (o := .cells #[.int .i64 a0_0, .int .i64 a0_1, .int .i64 a0_2, .slice A0_3 l0_3.length c0_3] 29 (0, 0)) (sqK BK250.out)) : gb251 ≠ gb250)); clear BK250; clear HB; have BK250 := n0_; have HB := n1_; have BK251 := n2_; have GW251 := n3_; have GE251 := n4_; have NB250_251 := n5_; have NB251_250 := n6_; clear n0_ n1_ n2_ n3_ n4_ n5_ n6_; clear hb hbox hg; have hnb10 := NB250_251.out; have hnc10 := NB251_250.out; have hcz11_0 : w9.cell? ⟨gb250, 0, none⟩ = some (.int .i64 a0_0) := (zb BK250.out 0).trans rfl; have hcz11_1 : w9.cell? ⟨gb250, 1, none⟩ = some (.int .i64 a0_1) := (zb BK250.out 1).trans rfl; have hcz11_2 : w9.cell? ⟨gb250, 2, none⟩ = some (.int .i64 a0_2) := (zb BK250.out 2).trans rfl; have hcz11_3 : w9.cell? ⟨gb250, 3, none⟩ = some (.slice A0_3 l0_3.length c0_3) := (zb BK250.out 3).trans rfl; have hfz11_0 := za BK250.out 0; have hfz11_1 := za BK250.out 1; have hfz11_2 := za BK250.out 2; have hfz11_3 := za BK250.out 3; have hcz12_0 : w9.cell? ⟨gb251, 0, none⟩ = some (.int .i64 a1_0) := (zb BK251.out 0).trans rfl; have hcz12_1 : w9.cell? ⟨gb251, 1, none⟩ = some (.int .i64 a1_1) := (zb BK251.out 1).trans rfl; have hcz12_2 : w9.cell? ⟨gb251, 2, none⟩ = some (.int .i64 a1_2) := (zb BK251.out 2).trans rfl; have hcz12_3 : w9.cell? ⟨gb251, 3, none⟩ = some (.slice A1_3 l1_3.length c1_3) := (zb BK251.out 3).trans rfl; have hfz12_0 := za BK251.out 0; have hfz12_1 := za BK251.out 1; have hfz12_2 := za BK251.out 2; have hfz12_3 := za BK251.out 3) | ((with_reducible refine zf (f := 23) rfl ?_); refine zu (some 24) rfl rfl Try.func23 (by kernel_rfl) rfl #[.slice A0_3 l0_3.length c0_3, .slice A1_3 l1_3.length c1_3] rfl sqM ?_; (with_reducible refine (qe.calls k _ _ l0_3 _ _ l1_3 true _ ?side1 ?side2 ?side3 ?side4 A6.out).mono ?_); (case side1 => exact sqC (Kd.zI HR0_3.out HB.out)); (case side2 => exact HC0_3.out); (case side3 => exact sqC (Kd.zI HR1_3.out HB.out)); (case side4 => exact HC1_3.out); rintro e w' ⟨rfl, ⟨nd, rfl⟩⟩; refine ⟨_, rfl, ?_⟩))
     go_ret
     exact ⟨sqE, sqB⟩
    ·replace c7 := Bool.eq_false_iff.mpr c7
     subst c7
     have H1 : (some false) = some r := by rw [if_neg (show ¬ (false = true) by decide)] at H; exact H
     clear H
     have H := H1
     clear H1
     obtain rfl := Option.some.inj H
     go_enter Try.func9, Try.ntmps9
     go_wp2_with (first | ((with_reducible refine zq (N := 2) rfl ?_); refine zo ?hg (N := 2) ?hd (cs := #[.int .i64 a0_0, .int .i64 a0_1, .int .i64 a0_2, .slice A0_3 l0_3.length c0_3]) (t := 29) ?hr ?_; (case hd => rfl); (case hg => rfl); (case hr => exact sqG); intro gb250 hg w13 hbox hb; have n0_ := Aside0.mk (ze sqB hb); have n1_ := Aside0.mk (hbox); have n2_ := Aside0.mk ((sqS hg : w.heap.size ≤ gb250)); have n3_ := Aside0.mk ((sqS hg : w.heap.size ≤ gb250)); clear HB; have HB := n0_; have BK250 := n1_; have GW250 := n2_; have GE250 := n3_; clear n0_ n1_ n2_ n3_; clear hb hbox hg) | ((with_reducible refine zq (N := 3) rfl ?_); refine zo ?hg (N := 3) ?hd (cs := #[.int .i64 a1_0, .int .i64 a1_1, .int .i64 a1_2, .slice A1_3 l1_3.length c1_3]) (t := 29) ?hr ?_; (case hd => rfl); (case hg => rfl); (case hr => exact sqG); intro gb251 hg w14 hbox hb; have n0_ := Aside0.mk (zd (g := gb250) (o := .cells #[.int .i64 a0_0, .int .i64 a0_1, .int .i64 a0_2, .slice A0_3 l0_3.length c0_3] 29 (0, 0)) (sqK BK250.out) hb); have n1_ := Aside0.mk (ze sqB hb); have n2_ := Aside0.mk (hbox); have n3_ := Aside0.mk ((sqS hg : w.heap.size ≤ gb251)); have n4_ := Aside0.mk ((sqS hg : w.heap.size ≤ gb251)); have n5_ := Aside0.mk ((by rw [hg]; exact Nat.ne_of_lt (zz (g := gb250) (o := .cells #[.int .i64 a0_0, .int .i64 a0_1, .int .i64 a0_2, .slice A0_3 l0_3.length c0_3] 29 (0, 0)) (sqK BK250.out)) : gb250 ≠ gb251)); have n6_ := Aside0.mk ((by rw [hg]; exact Nat.ne_of_gt (zz (g := gb250) (o := .cells #[.int .i64 a0_0, .int .i64 a0_1, .int .i64 a0_2, .slice A0_3 l0_3.length c0_3] 29 (0, 0)) (sqK BK250.out)) : gb251 ≠ gb250)); clear BK250; clear HB; have BK250 := n0_; have HB := n1_; have BK251 := n2_; have GW251 := n3_; have GE251 := n4_; have NB250_251 := n5_; have NB251_250 := n6_; clear n0_ n1_ n2_ n3_ n4_ n5_ n6_; clear hb hbox hg; have hnb15 := NB250_251.out; have hnc15 := NB251_250.out; have hcz16_0 : w14.cell? ⟨gb250, 0, none⟩ = some (.int .i64 a0_0) := (zb BK250.out 0).trans rfl; have hcz16_1 : w14.cell? ⟨gb250, 1, none⟩ = some (.int .i64 a0_1) := (zb BK250.out 1).trans rfl; have hcz16_2 : w14.cell? ⟨gb250, 2, none⟩ = some (.int .i64 a0_2) := (zb BK250.out 2).trans rfl; have hcz16_3 : w14.cell? ⟨gb250, 3, none⟩ = some (.slice A0_3 l0_3.length c0_3) := (zb BK250.out 3).trans rfl; have hfz16_0 := za BK250.out 0; have hfz16_1 := za BK250.out 1; have hfz16_2 := za BK250.out 2; have hfz16_3 := za BK250.out 3; have hcz17_0 : w14.cell? ⟨gb251, 0, none⟩ = some (.int .i64 a1_0) := (zb BK251.out 0).trans rfl; have hcz17_1 : w14.cell? ⟨gb251, 1, none⟩ = some (.int .i64 a1_1) := (zb BK251.out 1).trans rfl; have hcz17_2 : w14.cell? ⟨gb251, 2, none⟩ = some (.int .i64 a1_2) := (zb BK251.out 2).trans rfl; have hcz17_3 : w14.cell? ⟨gb251, 3, none⟩ = some (.slice A1_3 l1_3.length c1_3) := (zb BK251.out 3).trans rfl; have hfz17_0 := za BK251.out 0; have hfz17_1 := za BK251.out 1; have hfz17_2 := za BK251.out 2; have hfz17_3 := za BK251.out 3) | ((with_reducible refine zf (f := 23) rfl ?_); refine zu (some 24) rfl rfl Try.func23 (by kernel_rfl) rfl #[.slice A0_3 l0_3.length c0_3, .slice A1_3 l1_3.length c1_3] rfl sqM ?_; (with_reducible refine (qe.calls k _ _ l0_3 _ _ l1_3 false _ ?side1 ?side2 ?side3 ?side4 A6.out).mono ?_); (case side1 => exact sqC (Kd.zI HR0_3.out HB.out)); (case side2 => exact HC0_3.out); (case side3 => exact sqC (Kd.zI HR1_3.out HB.out)); (case side4 => exact HC1_3.out); rintro e w' ⟨rfl, ⟨nd, rfl⟩⟩; refine ⟨_, rfl, ?_⟩))
     go_ret
     exact ⟨sqE, sqB⟩
   ·rw [if_neg c5] at H
    have c5b0 : (a0_2 == a1_2) = false := beq_eq_false_iff_ne.mpr c5
    have c5b1 : (a0_2 != a1_2) = true := bne_iff_ne.mpr c5
    obtain rfl := Option.some.inj H
    go_enter Try.func9, Try.ntmps9
    go_wp2_with (first | ((with_reducible refine zq (N := 2) rfl ?_); refine zo ?hg (N := 2) ?hd (cs := #[.int .i64 a0_0, .int .i64 a0_1, .int .i64 a0_2, .slice A0_3 l0_3.length c0_3]) (t := 29) ?hr ?_; (case hd => rfl); (case hg => rfl); (case hr => exact sqG); intro gb250 hg w18 hbox hb; have n0_ := Aside0.mk (ze sqB hb); have n1_ := Aside0.mk (hbox); have n2_ := Aside0.mk ((sqS hg : w.heap.size ≤ gb250)); have n3_ := Aside0.mk ((sqS hg : w.heap.size ≤ gb250)); clear HB; have HB := n0_; have BK250 := n1_; have GW250 := n2_; have GE250 := n3_; clear n0_ n1_ n2_ n3_; clear hb hbox hg) | ((with_reducible refine zq (N := 3) rfl ?_); refine zo ?hg (N := 3) ?hd (cs := #[.int .i64 a1_0, .int .i64 a1_1, .int .i64 a1_2, .slice A1_3 l1_3.length c1_3]) (t := 29) ?hr ?_; (case hd => rfl); (case hg => rfl); (case hr => exact sqG); intro gb251 hg w19 hbox hb; have n0_ := Aside0.mk (zd (g := gb250) (o := .cells #[.int .i64 a0_0, .int .i64 a0_1, .int .i64 a0_2, .slice A0_3 l0_3.length c0_3] 29 (0, 0)) (sqK BK250.out) hb); have n1_ := Aside0.mk (ze sqB hb); have n2_ := Aside0.mk (hbox); have n3_ := Aside0.mk ((sqS hg : w.heap.size ≤ gb251)); have n4_ := Aside0.mk ((sqS hg : w.heap.size ≤ gb251)); have n5_ := Aside0.mk ((by rw [hg]; exact Nat.ne_of_lt (zz (g := gb250) (o := .cells #[.int .i64 a0_0, .int .i64 a0_1, .int .i64 a0_2, .slice A0_3 l0_3.length c0_3] 29 (0, 0)) (sqK BK250.out)) : gb250 ≠ gb251)); have n6_ := Aside0.mk ((by rw [hg]; exact Nat.ne_of_gt (zz (g := gb250) (o := .cells #[.int .i64 a0_0, .int .i64 a0_1, .int .i64 a0_2, .slice A0_3 l0_3.length c0_3] 29 (0, 0)) (sqK BK250.out)) : gb251 ≠ gb250)); clear BK250; clear HB; have BK250 := n0_; have HB := n1_; have BK251 := n2_; have GW251 := n3_; have GE251 := n4_; have NB250_251 := n5_; have NB251_250 := n6_; clear n0_ n1_ n2_ n3_ n4_ n5_ n6_; clear hb hbox hg; have hnb20 := NB250_251.out; have hnc20 := NB251_250.out; have hcz21_0 : w19.cell? ⟨gb250, 0, none⟩ = some (.int .i64 a0_0) := (zb BK250.out 0).trans rfl; have hcz21_1 : w19.cell? ⟨gb250, 1, none⟩ = some (.int .i64 a0_1) := (zb BK250.out 1).trans rfl; have hcz21_2 : w19.cell? ⟨gb250, 2, none⟩ = some (.int .i64 a0_2) := (zb BK250.out 2).trans rfl; have hcz21_3 : w19.cell? ⟨gb250, 3, none⟩ = some (.slice A0_3 l0_3.length c0_3) := (zb BK250.out 3).trans rfl; have hfz21_0 := za BK250.out 0; have hfz21_1 := za BK250.out 1; have hfz21_2 := za BK250.out 2; have hfz21_3 := za BK250.out 3; have hcz22_0 : w19.cell? ⟨gb251, 0, none⟩ = some (.int .i64 a1_0) := (zb BK251.out 0).trans rfl; have hcz22_1 : w19.cell? ⟨gb251, 1, none⟩ = some (.int .i64 a1_1) := (zb BK251.out 1).trans rfl; have hcz22_2 : w19.cell? ⟨gb251, 2, none⟩ = some (.int .i64 a1_2) := (zb BK251.out 2).trans rfl; have hcz22_3 : w19.cell? ⟨gb251, 3, none⟩ = some (.slice A1_3 l1_3.length c1_3) := (zb BK251.out 3).trans rfl; have hfz22_0 := za BK251.out 0; have hfz22_1 := za BK251.out 1; have hfz22_2 := za BK251.out 2; have hfz22_3 := za BK251.out 3))
    go_ret
    exact ⟨sqE, sqB⟩
  ·rw [if_neg c4] at H
   have c4b0 : (a0_1 == a1_1) = false := beq_eq_false_iff_ne.mpr c4
   have c4b1 : (a0_1 != a1_1) = true := bne_iff_ne.mpr c4
   obtain rfl := Option.some.inj H
   go_enter Try.func9, Try.ntmps9
   go_wp2_with (first | ((with_reducible refine zq (N := 2) rfl ?_); refine zo ?hg (N := 2) ?hd (cs := #[.int .i64 a0_0, .int .i64 a0_1, .int .i64 a0_2, .slice A0_3 l0_3.length c0_3]) (t := 29) ?hr ?_; (case hd => rfl); (case hg => rfl); (case hr => exact sqG); intro gb250 hg w23 hbox hb; have n0_ := Aside0.mk (ze sqB hb); have n1_ := Aside0.mk (hbox); have n2_ := Aside0.mk ((sqS hg : w.heap.size ≤ gb250)); have n3_ := Aside0.mk ((sqS hg : w.heap.size ≤ gb250)); clear HB; have HB := n0_; have BK250 := n1_; have GW250 := n2_; have GE250 := n3_; clear n0_ n1_ n2_ n3_; clear hb hbox hg) | ((with_reducible refine zq (N := 3) rfl ?_); refine zo ?hg (N := 3) ?hd (cs := #[.int .i64 a1_0, .int .i64 a1_1, .int .i64 a1_2, .slice A1_3 l1_3.length c1_3]) (t := 29) ?hr ?_; (case hd => rfl); (case hg => rfl); (case hr => exact sqG); intro gb251 hg w24 hbox hb; have n0_ := Aside0.mk (zd (g := gb250) (o := .cells #[.int .i64 a0_0, .int .i64 a0_1, .int .i64 a0_2, .slice A0_3 l0_3.length c0_3] 29 (0, 0)) (sqK BK250.out) hb); have n1_ := Aside0.mk (ze sqB hb); have n2_ := Aside0.mk (hbox); have n3_ := Aside0.mk ((sqS hg : w.heap.size ≤ gb251)); have n4_ := Aside0.mk ((sqS hg : w.heap.size ≤ gb251)); have n5_ := Aside0.mk ((by rw [hg]; exact Nat.ne_of_lt (zz (g := gb250) (o := .cells #[.int .i64 a0_0, .int .i64 a0_1, .int .i64 a0_2, .slice A0_3 l0_3.length c0_3] 29 (0, 0)) (sqK BK250.out)) : gb250 ≠ gb251)); have n6_ := Aside0.mk ((by rw [hg]; exact Nat.ne_of_gt (zz (g := gb250) (o := .cells #[.int .i64 a0_0, .int .i64 a0_1, .int .i64 a0_2, .slice A0_3 l0_3.length c0_3] 29 (0, 0)) (sqK BK250.out)) : gb251 ≠ gb250)); clear BK250; clear HB; have BK250 := n0_; have HB := n1_; have BK251 := n2_; have GW251 := n3_; have GE251 := n4_; have NB250_251 := n5_; have NB251_250 := n6_; clear n0_ n1_ n2_ n3_ n4_ n5_ n6_; clear hb hbox hg; have hnb25 := NB250_251.out; have hnc25 := NB251_250.out; have hcz26_0 : w24.cell? ⟨gb250, 0, none⟩ = some (.int .i64 a0_0) := (zb BK250.out 0).trans rfl; have hcz26_1 : w24.cell? ⟨gb250, 1, none⟩ = some (.int .i64 a0_1) := (zb BK250.out 1).trans rfl; have hcz26_2 : w24.cell? ⟨gb250, 2, none⟩ = some (.int .i64 a0_2) := (zb BK250.out 2).trans rfl; have hcz26_3 : w24.cell? ⟨gb250, 3, none⟩ = some (.slice A0_3 l0_3.length c0_3) := (zb BK250.out 3).trans rfl; have hfz26_0 := za BK250.out 0; have hfz26_1 := za BK250.out 1; have hfz26_2 := za BK250.out 2; have hfz26_3 := za BK250.out 3; have hcz27_0 : w24.cell? ⟨gb251, 0, none⟩ = some (.int .i64 a1_0) := (zb BK251.out 0).trans rfl; have hcz27_1 : w24.cell? ⟨gb251, 1, none⟩ = some (.int .i64 a1_1) := (zb BK251.out 1).trans rfl; have hcz27_2 : w24.cell? ⟨gb251, 2, none⟩ = some (.int .i64 a1_2) := (zb BK251.out 2).trans rfl; have hcz27_3 : w24.cell? ⟨gb251, 3, none⟩ = some (.slice A1_3 l1_3.length c1_3) := (zb BK251.out 3).trans rfl; have hfz27_0 := za BK251.out 0; have hfz27_1 := za BK251.out 1; have hfz27_2 := za BK251.out 2; have hfz27_3 := za BK251.out 3))
   go_ret
   exact ⟨sqE, sqB⟩
 ·rw [if_neg c3] at H
  have c3b0 : (a0_0 == a1_0) = false := beq_eq_false_iff_ne.mpr c3
  have c3b1 : (a0_0 != a1_0) = true := bne_iff_ne.mpr c3
  obtain rfl := Option.some.inj H
  go_enter Try.func9, Try.ntmps9
  go_wp2_with (first | ((with_reducible refine zq (N := 2) rfl ?_); refine zo ?hg (N := 2) ?hd (cs := #[.int .i64 a0_0, .int .i64 a0_1, .int .i64 a0_2, .slice A0_3 l0_3.length c0_3]) (t := 29) ?hr ?_; (case hd => rfl); (case hg => rfl); (case hr => exact sqG); intro gb250 hg w28 hbox hb; have n0_ := Aside0.mk (ze sqB hb); have n1_ := Aside0.mk (hbox); have n2_ := Aside0.mk ((sqS hg : w.heap.size ≤ gb250)); have n3_ := Aside0.mk ((sqS hg : w.heap.size ≤ gb250)); clear HB; have HB := n0_; have BK250 := n1_; have GW250 := n2_; have GE250 := n3_; clear n0_ n1_ n2_ n3_; clear hb hbox hg) | ((with_reducible refine zq (N := 3) rfl ?_); refine zo ?hg (N := 3) ?hd (cs := #[.int .i64 a1_0, .int .i64 a1_1, .int .i64 a1_2, .slice A1_3 l1_3.length c1_3]) (t := 29) ?hr ?_; (case hd => rfl); (case hg => rfl); (case hr => exact sqG); intro gb251 hg w29 hbox hb; have n0_ := Aside0.mk (zd (g := gb250) (o := .cells #[.int .i64 a0_0, .int .i64 a0_1, .int .i64 a0_2, .slice A0_3 l0_3.length c0_3] 29 (0, 0)) (sqK BK250.out) hb); have n1_ := Aside0.mk (ze sqB hb); have n2_ := Aside0.mk (hbox); have n3_ := Aside0.mk ((sqS hg : w.heap.size ≤ gb251)); have n4_ := Aside0.mk ((sqS hg : w.heap.size ≤ gb251)); have n5_ := Aside0.mk ((by rw [hg]; exact Nat.ne_of_lt (zz (g := gb250) (o := .cells #[.int .i64 a0_0, .int .i64 a0_1, .int .i64 a0_2, .slice A0_3 l0_3.length c0_3] 29 (0, 0)) (sqK BK250.out)) : gb250 ≠ gb251)); have n6_ := Aside0.mk ((by rw [hg]; exact Nat.ne_of_gt (zz (g := gb250) (o := .cells #[.int .i64 a0_0, .int .i64 a0_1, .int .i64 a0_2, .slice A0_3 l0_3.length c0_3] 29 (0, 0)) (sqK BK250.out)) : gb251 ≠ gb250)); clear BK250; clear HB; have BK250 := n0_; have HB := n1_; have BK251 := n2_; have GW251 := n3_; have GE251 := n4_; have NB250_251 := n5_; have NB251_250 := n6_; clear n0_ n1_ n2_ n3_ n4_ n5_ n6_; clear hb hbox hg; have hnb30 := NB250_251.out; have hnc30 := NB251_250.out; have hcz31_0 : w29.cell? ⟨gb250, 0, none⟩ = some (.int .i64 a0_0) := (zb BK250.out 0).trans rfl; have hcz31_1 : w29.cell? ⟨gb250, 1, none⟩ = some (.int .i64 a0_1) := (zb BK250.out 1).trans rfl; have hcz31_2 : w29.cell? ⟨gb250, 2, none⟩ = some (.int .i64 a0_2) := (zb BK250.out 2).trans rfl; have hcz31_3 : w29.cell? ⟨gb250, 3, none⟩ = some (.slice A0_3 l0_3.length c0_3) := (zb BK250.out 3).trans rfl; have hfz31_0 := za BK250.out 0; have hfz31_1 := za BK250.out 1; have hfz31_2 := za BK250.out 2; have hfz31_3 := za BK250.out 3; have hcz32_0 : w29.cell? ⟨gb251, 0, none⟩ = some (.int .i64 a1_0) := (zb BK251.out 0).trans rfl; have hcz32_1 : w29.cell? ⟨gb251, 1, none⟩ = some (.int .i64 a1_1) := (zb BK251.out 1).trans rfl; have hcz32_2 : w29.cell? ⟨gb251, 2, none⟩ = some (.int .i64 a1_2) := (zb BK251.out 2).trans rfl; have hcz32_3 : w29.cell? ⟨gb251, 3, none⟩ = some (.slice A1_3 l1_3.length c1_3) := (zb BK251.out 3).trans rfl; have hfz32_0 := za BK251.out 0; have hfz32_1 := za BK251.out 1; have hfz32_2 := za BK251.out 2; have hfz32_3 := za BK251.out 3))
  go_ret
  exact ⟨sqE, sqB⟩

def zW.l0 : Nat → List Int → Int → Int → Option (Int × List Int)
 | 0, _, _, _ => none
 | k + 1, x0, x1, x5 => if x5 < (x0.length : Int) then (if 0 ≤ x5 then (zW.l0 k (x0.set (x5 : Int).toNat x1) (wrap64 (x1 + 1)) (wrap64 (x5 + 1))) else (none)) else (some (x1, x0))
def zW.f (k : Nat) (l0 : List Int) (a1 : Int) : Option (Int × List Int) := zW.l0 k l0 a1 0
theorem zW.calls (k : Nat) (P0_ : Nat → Prop) (u9000_ : Value) (l0 : List Int) (a1 : Int) (r1 : Int) (r2 : List Int) (w0 w : World) (hB : Below w0.heap.size w0 w) (ho0 : Kd.R (Kd.int .i64) 3 w w0.heap.size P0_ u9000_ l0) (h : zW.f k l0 a1 = some (r1, r2)) :
  Calls Try.prog 24 #[u9000_, .int .i64 a1] w fun e w' => e = .returned (.int .i64 r1) ∧ Kd.R (Kd.int .i64) 3 w' w0.heap.size (fun k_ => (P0_ k_ ∨ w.heap.size ≤ k_)) u9000_ r2 ∧ Below w0.heap.size w0 w' ∧ Kept w w' (fun k_ => P0_ k_) := by
 have HO0 := Aside0.mk (show Kd.R (Kd.int .i64) 3 w w0.heap.size (fun k_ => (P0_ k_ ∨ w.heap.size ≤ k_)) u9000_ l0 from Kd.zy ho0 (fun k_ hk => (.inl hk)))
 have HK := Aside0.mk (Kept.refl w (fun k_ => P0_ k_))
 have HW0 := Aside0.mk hB.size
 have HB := Aside0.mk hB
 clear hB
 have H : (zW.l0 k l0 a1 0) = some (r1, r2) := h
 clear h
 have H' := Aside0.mk H
 clear H
 go_enter Try.func24, Try.ntmps24
 go_wp2
 go_loopg [1, 5] k (fun kq v1 v5 w' => ∃ (x0_1 : List Int) (x1_1 : Int) (x5_1 : Int), v1 = .int .i64 x1_1 ∧ v5 = .int .i64 x5_1 ∧ Aside0 (zW.l0 kq x0_1 x1_1 x5_1 = some (r1, r2)) ∧ Aside0 (kq ≤ k) ∧ Aside0 (Kd.R (Kd.int .i64) 3 w' w0.heap.size (fun k_ => (P0_ k_ ∨ w.heap.size ≤ k_)) u9000_ x0_1) ∧ Aside0 (Kept w w' (fun k_ => P0_ k_)) ∧ Aside0 (Below w0.heap.size w0 w'))
 case atStart => exact ⟨(l0), (a1), (0), (sqD), (sqD), H', ⟨Nat.le_refl _⟩, ⟨sqR HO0.out⟩, ⟨by repeat (first | (with_reducible first | exact HK.out | apply Kept.alloc | apply Kept.drewN | apply Kept.drew) | exact HK.out)⟩, ⟨sqB⟩⟩
 case round =>
  clear H'
  try clear c2
  try clear p2
  obtain ⟨x0_1, x1_1, x5_1, rfl, rfl, HA, HK1, HO_0, HK, HB⟩ := hrel
  cases gk with
  | zero => exact absurd HA.out (by simp [zW.l0])
  | succ k1 =>
   have H := HA.out
   clear HA
   simp only [zW.l0] at H
   by_cases c3 : x5_1 < (x0_1.length : Int)
   ·rw [if_pos c3] at H
    have c3b0 : decide (x5_1 < (x0_1.length : Int)) = true := decide_eq_true c3
    clear c3
    by_cases c4 : 0 ≤ x5_1
    ·rw [if_pos c4] at H
     have c4b0 : decide (0 ≤ x5_1) = true := decide_eq_true c4
     clear c4
     obtain ⟨y253, hy253⟩ : ∃ y_ : List Int, y_ = (x0_1.set (x5_1 : Int).toNat x1_1) := ⟨_, rfl⟩
     replace H : (zW.l0 k1 y253 (wrap64 (x1_1 + 1)) (wrap64 (x5_1 + 1))) = some (r1, r2) := by first | (rw [hy253]; with_reducible exact H) | (have H2_ := (Option.bind_some _ _).symm.trans H; rw [hy253]; with_reducible exact H2_) | (have H2_ := (Option.bind_some _ _).symm.trans H; with_reducible exact H2_) | with_reducible exact H | (rw [hy253]; exact H) | exact H
     have Ny253 := Aside0.mk hy253
     clear hy253
     have H' := Aside0.mk H
     clear H
     obtain ⟨Ao6, co6, eo6⟩ := Kd.z8 HO_0.out
     subst eo6
     have p5 : 0 ≤ (x5_1 : Int) := of_decide_eq_true sqA
     have q5 : (x5_1 : Int) < ((x0_1.length : Int) : Int) := of_decide_eq_true sqA
     obtain ⟨go5, co5, eo5, gb5, gl5, cl5, HG5⟩ := Kd.ZE HO_0.out (by omega)
     (first | cases eo5 | (injection eo5 with ea_ en_ ec_; (first | subst ea_ | (injection ea_ with ea_; subst ea_)); subst ec_; clear en_))
     (try simp only [add_plain] at *)
     have GB5 := Aside0.mk gb5
     have GG5 := Aside0.mk HG5
     clear gb5 gl5 HG5
     have HMgo5 := Aside0.mk (show (P0_ go5 ∨ w.heap.size ≤ go5) from (HO_0.out.1 _ rfl))
     obtain ⟨hx5_0, hf5_0⟩ := Kd.yi 0 HO_0.out (x5_1 : Int) p5 q5
     replace p5 := eq_true p5
     replace q5 := eq_true q5
     have HP7 := Kd.Qe HO_0.out (x5_1 : Int) x1_1
     go_wp2_with (first | ((with_reducible refine jq (t := 3) (p := 15) rfl ?_); refine jb (t := 3) (p := 15) (v := ?vo_w8) (w1 := (wr.setCell ⟨go5, (x5_1 : Int).toNat, none⟩ (.int .i64 x1_1))) ?hg ?ho ?hn ?hr ?_; (case ho => rfl); (case hg => rfl); (case hn => rfl); (case hr => exact sqG); intro w8 hw; have hg : wr.grownBy w8 (some go5) := (by rw [hw]; exact HP7.2); have hp_ : Kd.R (Kd.int .i64) 3 w8 w0.heap.size (fun k_ => (P0_ k_ ∨ w.heap.size ≤ k_)) (.slice (some ⟨go5, 0, none⟩) x0_1.length co6) y253 := (by rw [hw, Ny253.out]; exact HP7.1); clear HP7; have n0_ := Aside0.mk (hp_); have n1_ := Aside0.mk ((by rw [hw]; exact qa (HB.out) GB5.out : Below w0.heap.size w0 w8)); have n2_ := Aside0.mk (Kept.Vs (S := (fun k_ => P0_ k_)) hg (by repeat (first | (with_reducible first | exact HK.out | apply Kept.alloc | apply Kept.drewN | apply Kept.drew) | exact HK.out)) (fun k_ e_ => (HO_0.out.1 k_ e_))); clear HO_0; clear HB; clear HK; have HO_0 := n0_; have HB := n1_; have HK := n2_; clear n0_ n1_ n2_; clear hg hw hp_))
     go_roundg k1
     case measure => have := HK1.out; omega
     case rel => exact ⟨(y253), (wrap64 (x1_1 + 1)), (wrap64 (x5_1 + 1)), (sqD), (sqD), H', ⟨by have := HK1.out; omega⟩, ⟨sqR HO_0.out⟩, ⟨by repeat (first | (with_reducible first | exact HK.out | apply Kept.alloc | apply Kept.drewN | apply Kept.drew) | exact HK.out)⟩, ⟨sqB⟩⟩
    ·rw [if_neg c4] at H
     exact absurd H (by simp)
   ·rw [if_neg c3] at H
    have c3b0 : decide (x5_1 < (x0_1.length : Int)) = false := decide_eq_false c3
    clear c3
    simp only [Option.some.injEq, Prod.mk.injEq] at H
    obtain ⟨rfl, rfl⟩ := H
    obtain ⟨Ao9, co9, eo9⟩ := Kd.z8 HO_0.out
    subst eo9
    go_wp2
    go_ret
    exact ⟨sqE, sqR HO_0.out, sqB, by repeat (first | (with_reducible first | exact HK.out | apply Kept.alloc | apply Kept.drewN | apply Kept.drew) | exact HK.out)⟩

def zZ.f (k : Nat) (a0_0 : Int) (a0_1 : Int) (a0_2 : Int) (l0_3 : List Int) (a1 : Int) : Option (Int × List Int) := (zW.f k l0_3 a1).bind fun bt255 => (some (bt255.1, bt255.2))
theorem zZ.calls (k : Nat) (a0_0 : Int) (a0_1 : Int) (a0_2 : Int) (P0_3_ : Nat → Prop) (u9000_ : Value) (l0_3 : List Int) (a1 : Int) (r1 : Int) (r2 : List Int) (w0 w : World) (hB : Below w0.heap.size w0 w) (ho0_3 : Kd.R (Kd.int .i64) 3 w w0.heap.size P0_3_ u9000_ l0_3) (h : zZ.f k a0_0 a0_1 a0_2 l0_3 a1 = some (r1, r2)) :
  Calls Try.prog 10 #[.agg #[.int .i64 a0_0, .int .i64 a0_1, .int .i64 a0_2, u9000_], .int .i64 a1] w fun e w' => e = .returned (.int .i64 r1) ∧ Kd.R (Kd.int .i64) 3 w' w0.heap.size (fun k_ => (P0_3_ k_ ∨ w.heap.size ≤ k_)) u9000_ r2 ∧ Below w0.heap.size w0 w' ∧ Kept w w' (fun k_ => P0_3_ k_) := by
 have hu29 := Try.underlying29
 have HO0_3 := Aside0.mk (show Kd.R (Kd.int .i64) 3 w w0.heap.size (fun k_ => (P0_3_ k_ ∨ w.heap.size ≤ k_)) u9000_ l0_3 from Kd.zy ho0_3 (fun k_ hk => (.inl hk)))
 have HK := Aside0.mk (Kept.refl w (fun k_ => P0_3_ k_))
 have HW0 := Aside0.mk hB.size
 have HB := Aside0.mk hB
 clear hB
 have H : ((zW.f k l0_3 a1).bind fun bt255 => (some (bt255.1, bt255.2))) = some (r1, r2) := h
 clear h
 replace H := Option.bind_eq_some_iff.mp H
 obtain ⟨⟨t255, t256⟩, A30, H⟩ := H
 replace H : (some (t255, t256)) = some (r1, r2) := H
 have A3 := Aside0.mk A30
 clear A30
 simp only [Option.some.injEq, Prod.mk.injEq] at H
 obtain ⟨rfl, rfl⟩ := H
 obtain ⟨Ao4, co4, eo4⟩ := Kd.z8 HO0_3.out
 subst eo4
 go_enter Try.func10, Try.ntmps10
 go_wp2_with (first | ((with_reducible refine zq (N := 2) rfl ?_); refine zo ?hg (N := 2) ?hd (cs := #[.int .i64 a0_0, .int .i64 a0_1, .int .i64 a0_2, .slice Ao4 l0_3.length co4]) (t := 29) ?hr ?_; (case hd => rfl); (case hg => rfl); (case hr => exact sqG); intro gb254 hg w5 hbox hb; have n0_ := Aside0.mk (Kd.zE (sqR HO0_3.out) hb); have n1_ := Aside0.mk (Kept.below (S := (fun k_ => P0_3_ k_)) (by repeat (first | (with_reducible first | exact HK.out | apply Kept.alloc | apply Kept.drewN | apply Kept.drew) | exact HK.out)) hb); have n2_ := Aside0.mk (ze sqB hb); have n3_ := Aside0.mk (hbox); have n4_ := Aside0.mk ((by rw [hg]; exact (by first | exact HK.out.1 | exact (show Kept w _ (fun k_ => P0_3_ k_) from by repeat (first | (with_reducible first | exact HK.out | apply Kept.alloc | apply Kept.drewN | apply Kept.drew) | exact HK.out)).1) : w.heap.size ≤ gb254)); have n5_ := Aside0.mk ((sqS hg : w0.heap.size ≤ gb254)); clear HO0_3; clear HK; clear HB; have HO0_3 := n0_; have HK := n1_; have HB := n2_; have BK254 := n3_; have GW254 := n4_; have GE254 := n5_; clear n0_ n1_ n2_ n3_ n4_ n5_; clear hb hbox hg; have hcz6_0 : w5.cell? ⟨gb254, 0, none⟩ = some (.int .i64 a0_0) := (zb BK254.out 0).trans rfl; have hcz6_1 : w5.cell? ⟨gb254, 1, none⟩ = some (.int .i64 a0_1) := (zb BK254.out 1).trans rfl; have hcz6_2 : w5.cell? ⟨gb254, 2, none⟩ = some (.int .i64 a0_2) := (zb BK254.out 2).trans rfl; have hcz6_3 : w5.cell? ⟨gb254, 3, none⟩ = some (.slice Ao4 l0_3.length co4) := (zb BK254.out 3).trans rfl; have hfz6_0 := za BK254.out 0; have hfz6_1 := za BK254.out 1; have hfz6_2 := za BK254.out 2; have hfz6_3 := za BK254.out 3) | ((with_reducible refine zf (f := 24) rfl ?_); refine zu (some 8) rfl rfl Try.func24 (by kernel_rfl) rfl #[.slice Ao4 l0_3.length co4, .int .i64 a1] rfl sqM ?_; (with_reducible refine (zW.calls k (fun k_ => some k_ = (.slice Ao4 l0_3.length co4 : Value).ownBlock) (.slice Ao4 l0_3.length co4) l0_3 a1 t255 t256 w0 _ ?side1 ?side2 A3.out).mono ?_); (case side1 => repeat (first | (with_reducible first | exact HB.out | apply qw | apply z7 | apply qf | refine qa ?_ GE254.out) | exact HB.out)); (case side2 => exact Kd.yH rfl HO0_3.out); rintro e w7 ⟨rfl, hy0, hb, hkp⟩; refine ⟨_, rfl, ?_⟩; have n0_ := Aside0.mk (Kd.Ve rfl hy0 (fun k_ e_ => HO0_3.out.1 k_ e_)); have n1_ := Aside0.mk (jU (sqK BK254.out) hkp (fun hs_ => (fun e_ => (Kd.vz HO0_3.out BK254.out (by decide)) e_) hs_)); have n2_ := Aside0.mk (Kept.Vm (S := (fun k_ => P0_3_ k_)) (by repeat (first | (with_reducible first | exact HK.out | apply Kept.alloc | apply Kept.drewN | apply Kept.drew | refine Kept.setCell ?_ (.inr GW254.out) _) | exact HK.out)) hkp (fun k_ hs_ => (fun e_ => (HO0_3.out.1 k_ e_.symm)) hs_)); have n3_ := Aside0.mk (hb); clear HO0_3; clear BK254; clear HK; clear HB; have HO0_3 := n0_; have BK254 := n1_; have HK := n2_; have HB := n3_; clear n0_ n1_ n2_ n3_; (try clear hb); (try clear hkp); (try clear hy0)))
 go_ret
 exact ⟨sqE, sqR HO0_3.out, sqB, by repeat (first | (with_reducible first | exact HK.out | apply Kept.alloc | apply Kept.drewN | apply Kept.drew | refine Kept.setCell ?_ (.inr GW254.out) _) | exact HK.out)⟩

def qR.f (k : Nat) (a0_0 : Int) (l0_1 : List Int) (a1 : Int) : Option (Int × List Int) := (zW.f k l0_1 a1).bind fun bt258 => (some (bt258.1, bt258.2))
theorem qR.calls (k : Nat) (a0_0 : Int) (P0_1_ : Nat → Prop) (u9000_ : Value) (l0_1 : List Int) (a1 : Int) (r1 : Int) (r2 : List Int) (w0 w : World) (hB : Below w0.heap.size w0 w) (ho0_1 : Kd.R (Kd.int .i64) 3 w w0.heap.size P0_1_ u9000_ l0_1) (h : qR.f k a0_0 l0_1 a1 = some (r1, r2)) :
  Calls Try.prog 11 #[.agg #[.int .i64 a0_0, u9000_], .int .i64 a1] w fun e w' => e = .returned (.int .i64 r1) ∧ Kd.R (Kd.int .i64) 3 w' w0.heap.size (fun k_ => (P0_1_ k_ ∨ w.heap.size ≤ k_)) u9000_ r2 ∧ Below w0.heap.size w0 w' ∧ Kept w w' (fun k_ => P0_1_ k_) := by
 have hu27 := Try.underlying27
 have HO0_1 := Aside0.mk (show Kd.R (Kd.int .i64) 3 w w0.heap.size (fun k_ => (P0_1_ k_ ∨ w.heap.size ≤ k_)) u9000_ l0_1 from Kd.zy ho0_1 (fun k_ hk => (.inl hk)))
 have HK := Aside0.mk (Kept.refl w (fun k_ => P0_1_ k_))
 have HW0 := Aside0.mk hB.size
 have HB := Aside0.mk hB
 clear hB
 have H : ((zW.f k l0_1 a1).bind fun bt258 => (some (bt258.1, bt258.2))) = some (r1, r2) := h
 clear h
 replace H := Option.bind_eq_some_iff.mp H
 obtain ⟨⟨t258, t259⟩, A30, H⟩ := H
 replace H : (some (t258, t259)) = some (r1, r2) := H
 have A3 := Aside0.mk A30
 clear A30
 simp only [Option.some.injEq, Prod.mk.injEq] at H
 obtain ⟨rfl, rfl⟩ := H
 obtain ⟨Ao4, co4, eo4⟩ := Kd.z8 HO0_1.out
 subst eo4
 go_enter Try.func11, Try.ntmps11
 go_wp2_with (first | ((with_reducible refine zq (N := 2) rfl ?_); refine zo ?hg (N := 2) ?hd (cs := #[.int .i64 a0_0, .slice Ao4 l0_1.length co4]) (t := 27) ?hr ?_; (case hd => rfl); (case hg => rfl); (case hr => exact sqG); intro gb257 hg w5 hbox hb; have n0_ := Aside0.mk (Kd.zE (sqR HO0_1.out) hb); have n1_ := Aside0.mk (Kept.below (S := (fun k_ => P0_1_ k_)) (by repeat (first | (with_reducible first | exact HK.out | apply Kept.alloc | apply Kept.drewN | apply Kept.drew) | exact HK.out)) hb); have n2_ := Aside0.mk (ze sqB hb); have n3_ := Aside0.mk (hbox); have n4_ := Aside0.mk ((by rw [hg]; exact (by first | exact HK.out.1 | exact (show Kept w _ (fun k_ => P0_1_ k_) from by repeat (first | (with_reducible first | exact HK.out | apply Kept.alloc | apply Kept.drewN | apply Kept.drew) | exact HK.out)).1) : w.heap.size ≤ gb257)); have n5_ := Aside0.mk ((sqS hg : w0.heap.size ≤ gb257)); clear HO0_1; clear HK; clear HB; have HO0_1 := n0_; have HK := n1_; have HB := n2_; have BK257 := n3_; have GW257 := n4_; have GE257 := n5_; clear n0_ n1_ n2_ n3_ n4_ n5_; clear hb hbox hg; have hcz6_0 : w5.cell? ⟨gb257, 0, none⟩ = some (.int .i64 a0_0) := (zb BK257.out 0).trans rfl; have hcz6_1 : w5.cell? ⟨gb257, 1, none⟩ = some (.slice Ao4 l0_1.length co4) := (zb BK257.out 1).trans rfl; have hfz6_0 := za BK257.out 0; have hfz6_1 := za BK257.out 1) | ((with_reducible refine zf (f := 24) rfl ?_); refine zu (some 8) rfl rfl Try.func24 (by kernel_rfl) rfl #[.slice Ao4 l0_1.length co4, .int .i64 a1] rfl sqM ?_; (with_reducible refine (zW.calls k (fun k_ => some k_ = (.slice Ao4 l0_1.length co4 : Value).ownBlock) (.slice Ao4 l0_1.length co4) l0_1 a1 t258 t259 w0 _ ?side1 ?side2 A3.out).mono ?_); (case side1 => repeat (first | (with_reducible first | exact HB.out | apply qw | apply z7 | apply qf | refine qa ?_ GE257.out) | exact HB.out)); (case side2 => exact Kd.yH rfl HO0_1.out); rintro e w7 ⟨rfl, hy0, hb, hkp⟩; refine ⟨_, rfl, ?_⟩; have n0_ := Aside0.mk (Kd.Ve rfl hy0 (fun k_ e_ => HO0_1.out.1 k_ e_)); have n1_ := Aside0.mk (jU (sqK BK257.out) hkp (fun hs_ => (fun e_ => (Kd.vz HO0_1.out BK257.out (by decide)) e_) hs_)); have n2_ := Aside0.mk (Kept.Vm (S := (fun k_ => P0_1_ k_)) (by repeat (first | (with_reducible first | exact HK.out | apply Kept.alloc | apply Kept.drewN | apply Kept.drew | refine Kept.setCell ?_ (.inr GW257.out) _) | exact HK.out)) hkp (fun k_ hs_ => (fun e_ => (HO0_1.out.1 k_ e_.symm)) hs_)); have n3_ := Aside0.mk (hb); clear HO0_1; clear BK257; clear HK; clear HB; have HO0_1 := n0_; have BK257 := n1_; have HK := n2_; have HB := n3_; clear n0_ n1_ n2_ n3_; (try clear hb); (try clear hkp); (try clear hy0)))
 go_ret
 exact ⟨sqE, sqR HO0_1.out, sqB, by repeat (first | (with_reducible first | exact HK.out | apply Kept.alloc | apply Kept.drewN | apply Kept.drew | refine Kept.setCell ?_ (.inr GW257.out) _) | exact HK.out)⟩

def qc.l0 : Nat → List Int → Int → Int → Option (Int)
 | 0, _, _, _ => none
 | k + 1, x0, x1, x5 => if x5 < (x0.length : Int) then (if 0 ≤ x5 then (if (rd x0 x5) = x1 then (qc.l0 k x0 (wrap64 (x1 + 1)) (wrap64 (x5 + 1))) else (some (-1))) else (none)) else (some x1)
def qc.f (k : Nat) (l0 : List Int) (a1 : Int) : Option (Int) := qc.l0 k l0 a1 0
theorem qc.calls (k : Nat) (A0 : Option Addr) (c0 : Nat) (l0 : List Int) (a1 : Int) (r : Int) (w : World) (hr0 : Kd.C (Kd.int .i64) w A0 l0.length l0) (hc0 : l0.length ≤ c0) (h : qc.f k l0 a1 = some r) :
  Calls Try.prog 25 #[.slice A0 l0.length c0, .int .i64 a1] w fun e w' => e = .returned (.int .i64 r) ∧ zi w w' := by
 have HR0 := Aside0.mk hr0
 have HC0 := Aside0.mk hc0
 clear hr0 hc0
 have H : (qc.l0 k l0 a1 0) = some r := h
 clear h
 have H' := Aside0.mk H
 clear H
 go_enter Try.func25, Try.ntmps25
 go_wp2
 go_loopg [1, 5] k (fun kq v1 v5 w' => ∃ (x1_1 : Int) (x5_1 : Int), v1 = .int .i64 x1_1 ∧ v5 = .int .i64 x5_1 ∧ Aside0 (qc.l0 kq l0 x1_1 x5_1 = some r) ∧ Aside0 (kq ≤ k) ∧ zi w w')
 case atStart => exact ⟨(a1), (0), (sqD), (sqD), H', ⟨Nat.le_refl _⟩, by repeat (first | exact zi.refl _ | apply zi.step)⟩
 case round =>
  clear H'
  try clear c2
  try clear p2
  obtain ⟨x1_1, x5_1, rfl, rfl, HA, HK1, ⟨m1, rfl⟩⟩ := hrel
  cases gk with
  | zero => exact absurd HA.out (by simp [qc.l0])
  | succ k1 =>
   have H := HA.out
   clear HA
   simp only [qc.l0] at H
   by_cases c3 : x5_1 < (l0.length : Int)
   ·rw [if_pos c3] at H
    have c3b0 : decide (x5_1 < (l0.length : Int)) = true := decide_eq_true c3
    clear c3
    by_cases c4 : 0 ≤ x5_1
    ·rw [if_pos c4] at H
     have c4b0 : decide (0 ≤ x5_1) = true := decide_eq_true c4
     clear c4
     by_cases c5 : (rd l0 x5_1) = x1_1
     ·rw [if_pos c5] at H
      have c5b0 : ((rd l0 x5_1) == x1_1) = true := beq_iff_eq.mpr c5
      have c5b1 : ((rd l0 x5_1) != x1_1) = false := bne_eq_false_iff_eq.mpr c5
      clear c5
      have H' := Aside0.mk H
      clear H
      have p260 : 0 ≤ (x5_1 : Int) := of_decide_eq_true sqA
      have q260 : x5_1 < (l0.length : Int) := of_decide_eq_true sqA
      obtain ⟨ad260, e260, hx260_0⟩ := Kd.qm HR0.out x5_1 p260 q260
      cases e260
      replace p260 := eq_true p260
      replace q260 := eq_true q260
      go_wp2
      go_roundg k1
      case measure => have := HK1.out; omega
      case rel => exact ⟨(wrap64 (x1_1 + 1)), (wrap64 (x5_1 + 1)), (sqD), (sqD), H', ⟨by have := HK1.out; omega⟩, by repeat (first | exact zi.refl _ | apply zi.step)⟩
     ·rw [if_neg c5] at H
      have c5b0 : ((rd l0 x5_1) == x1_1) = false := beq_eq_false_iff_ne.mpr c5
      have c5b1 : ((rd l0 x5_1) != x1_1) = true := bne_iff_ne.mpr c5
      obtain rfl := Option.some.inj H
      have p260 : 0 ≤ (x5_1 : Int) := of_decide_eq_true sqA
      have q260 : x5_1 < (l0.length : Int) := of_decide_eq_true sqA
      obtain ⟨ad260, e260, hx260_0⟩ := Kd.qm HR0.out x5_1 p260 q260
      cases e260
      replace p260 := eq_true p260
      replace q260 := eq_true q260
      go_wp2
      go_ret
      exact ⟨sqD, by repeat (first | exact zi.refl _ | apply zi.step)⟩
    ·rw [if_neg c4] at H
     exact absurd H (by simp)
   ·rw [if_neg c3] at H
    have c3b0 : decide (x5_1 < (l0.length : Int)) = false := decide_eq_false c3
    clear c3
    obtain rfl := Option.some.inj H
    go_wp2
    go_ret
    exact ⟨sqD, by repeat (first | exact zi.refl _ | apply zi.step)⟩

def zU.f (k : Nat) (a0_0 : Int) (l0_1 : List Int) (a1 : Int) : Option (Int) := (qc.f k l0_1 a1).bind fun t262 => (if t262 < 0 then (some (-1)) else (some t262))
theorem zU.calls (k : Nat) (a0_0 : Int) (A0_1 : Option Addr) (c0_1 : Nat) (l0_1 : List Int) (a1 : Int) (r : Int) (w : World) (hr0_1 : Kd.C (Kd.int .i64) w A0_1 l0_1.length l0_1) (hc0_1 : l0_1.length ≤ c0_1) (h : zU.f k a0_0 l0_1 a1 = some r) :
  Calls Try.prog 12 #[.agg #[.int .i64 a0_0, .slice A0_1 l0_1.length c0_1], .int .i64 a1] w fun e w' => e = .returned (.int .i64 r) ∧ Below w.heap.size w w' := by
 have hu27 := Try.underlying27
 have HR0_1 := Aside0.mk hr0_1
 have HC0_1 := Aside0.mk hc0_1
 clear hr0_1 hc0_1
 have HB := Aside0.mk (Below.refl w.heap.size w)
 have H : ((qc.f k l0_1 a1).bind fun t262 => (if t262 < 0 then (some (-1)) else (some t262))) = some r := h
 clear h
 replace H := Option.bind_eq_some_iff.mp H
 obtain ⟨t262, A30, H⟩ := H
 replace H : (if t262 < 0 then (some (-1)) else (some t262)) = some r := H
 have A3 := Aside0.mk A30
 clear A30
 by_cases c4 : t262 < 0
 ·rw [if_pos c4] at H
  have c4b0 : decide (t262 < 0) = true := decide_eq_true c4
  clear c4
  obtain rfl := Option.some.inj H
  go_enter Try.func12, Try.ntmps12
  go_wp2_with (first | ((with_reducible refine zq (N := 2) rfl ?_); refine zo ?hg (N := 2) ?hd (cs := #[.int .i64 a0_0, .slice A0_1 l0_1.length c0_1]) (t := 27) ?hr ?_; (case hd => rfl); (case hg => rfl); (case hr => exact sqG); intro gb261 hg w5 hbox hb; have n0_ := Aside0.mk (ze sqB hb); have n1_ := Aside0.mk (hbox); have n2_ := Aside0.mk ((sqS hg : w.heap.size ≤ gb261)); have n3_ := Aside0.mk ((sqS hg : w.heap.size ≤ gb261)); clear HB; have HB := n0_; have BK261 := n1_; have GW261 := n2_; have GE261 := n3_; clear n0_ n1_ n2_ n3_; clear hb hbox hg; have hcz6_0 : w5.cell? ⟨gb261, 0, none⟩ = some (.int .i64 a0_0) := (zb BK261.out 0).trans rfl; have hcz6_1 : w5.cell? ⟨gb261, 1, none⟩ = some (.slice A0_1 l0_1.length c0_1) := (zb BK261.out 1).trans rfl; have hfz6_0 := za BK261.out 0; have hfz6_1 := za BK261.out 1) | ((with_reducible refine zf (f := 25) rfl ?_); refine zu (some 8) rfl rfl Try.func25 (by kernel_rfl) rfl #[.slice A0_1 l0_1.length c0_1, .int .i64 a1] rfl sqM ?_; (with_reducible refine (qc.calls k _ _ l0_1 a1 t262 _ ?side1 ?side2 A3.out).mono ?_); (case side1 => exact sqC (Kd.zI HR0_1.out HB.out)); (case side2 => exact HC0_1.out); rintro e w' ⟨rfl, ⟨nd, rfl⟩⟩; refine ⟨_, rfl, ?_⟩))
  go_ret
  exact ⟨sqE, sqB⟩
 ·rw [if_neg c4] at H
  have c4b0 : decide (t262 < 0) = false := decide_eq_false c4
  clear c4
  obtain rfl := Option.some.inj H
  go_enter Try.func12, Try.ntmps12
  go_wp2_with (first | ((with_reducible refine zq (N := 2) rfl ?_); refine zo ?hg (N := 2) ?hd (cs := #[.int .i64 a0_0, .slice A0_1 l0_1.length c0_1]) (t := 27) ?hr ?_; (case hd => rfl); (case hg => rfl); (case hr => exact sqG); intro gb261 hg w7 hbox hb; have n0_ := Aside0.mk (ze sqB hb); have n1_ := Aside0.mk (hbox); have n2_ := Aside0.mk ((sqS hg : w.heap.size ≤ gb261)); have n3_ := Aside0.mk ((sqS hg : w.heap.size ≤ gb261)); clear HB; have HB := n0_; have BK261 := n1_; have GW261 := n2_; have GE261 := n3_; clear n0_ n1_ n2_ n3_; clear hb hbox hg; have hcz8_0 : w7.cell? ⟨gb261, 0, none⟩ = some (.int .i64 a0_0) := (zb BK261.out 0).trans rfl; have hcz8_1 : w7.cell? ⟨gb261, 1, none⟩ = some (.slice A0_1 l0_1.length c0_1) := (zb BK261.out 1).trans rfl; have hfz8_0 := za BK261.out 0; have hfz8_1 := za BK261.out 1) | ((with_reducible refine zf (f := 25) rfl ?_); refine zu (some 8) rfl rfl Try.func25 (by kernel_rfl) rfl #[.slice A0_1 l0_1.length c0_1, .int .i64 a1] rfl sqM ?_; (with_reducible refine (qc.calls k _ _ l0_1 a1 t262 _ ?side1 ?side2 A3.out).mono ?_); (case side1 => exact sqC (Kd.zI HR0_1.out HB.out)); (case side2 => exact HC0_1.out); rintro e w' ⟨rfl, ⟨nd, rfl⟩⟩; refine ⟨_, rfl, ?_⟩))
  go_ret
  exact ⟨sqE, sqB⟩

end Go.Proofs.Ytjlbfbpjcmjdfaa.F
end
section
namespace Go.Proofs.Ytjlbfbpjcmjdfaa.F
open Go.RowKit Go.Proofs.YtjlbfbpjcmjdfaaW.PrintWords Go.Proofs.YtjlbfbpjcmjdfaaW.PrintLast Go.Proofs.YtjlbfbpjcmjdfaaW.PrintMore
set_option linter.unusedSimpArgs false
set_option linter.unusedVariables false
/-- Function g, bound to lb, answers as1 the partial function q says, in every world in which all that lay in w lies unturned. -/
def JI (g : Nat) (lb : Array Value) (q : Int → Option Bool) (w : World) : Prop :=
  ∀ (W : World) (x : Int) (r : Bool), q x = some r → Below w.heap.size w W → Calls Try.prog g (#[.int .i64 x] ++ lb) W fun e w' => e = .returned (.bool r) ∧ Below W.heap.size W w'
/-- The place of the first element of which q says yes, counted from i; -1 where there is none. -/
def Vu (q : Int → Option Bool) : Int → List Int → Option Int
  | _, [] => some (-1)
  | i, x :: t => (q x).bind fun b => if b = true then some i else Vu q (i + 1) t
def Qk (q : Int → Option Bool) : List Int → Option Bool
  | [] => some false
  | x :: t => (q x).bind fun b => if b = true then some true else Qk q t
theorem VY (q : Int → Option Bool) : ∀ (l : List Int) (i : Int) (r : Bool), 0 ≤ i → Qk q l = some r → ∃ m, Vu q i l = some m ∧ decide (0 ≤ m) = r
  | [], i, r, _, h => by
    simp only [Qk, Option.some.injEq] at h
    exact ⟨-1, rfl, by rw [← h]; rfl⟩
  | x :: t, i, r, h0, h => by
    simp only [Qk, Option.bind_eq_some_iff] at h
    obtain ⟨b, hb, h⟩ := h
    cases b with
    | true => simp only [if_true, Option.some.injEq] at h; exact ⟨i, by simp [Vu, hb], by rw [← h]; simpa using h0⟩
    | false =>
      simp only [Bool.false_eq_true, if_false] at h
      obtain ⟨m, h1, h2⟩ := VY q t (i + 1) r (by omega) h
      exact ⟨m, by simp [Vu, hb, h1], h2⟩
theorem QB (q : Int → Option Bool) (g : Nat) (lb : Array Value) (eg : ∀ args w, (callFunc g args).run Try.prog w = .ok (.enter g args) w) (A0 : Option Addr) (c0 : Nat) (l0 : List Int) (r : Int) (w : World)
    (hp : JI g lb q w) (hr0 : Kd.C (Kd.int .i64) w A0 l0.length l0) (hc0 : l0.length ≤ c0) (hs : l0.length ≤ 17592186044416) (h : Vu q 0 l0 = some r) :
    Calls Try.prog 57 #[.slice A0 l0.length c0, .func (.func g) #[] lb] w fun e w' => e = .returned (.int .i64 r) ∧ Below w.heap.size w w' := by
  have HR0 := Aside0.mk hr0
  have HC0 := Aside0.mk hc0
  have HP := Aside0.mk hp
  have H0 := Aside0.mk h
  have HS := Aside0.mk hs
  clear hr0 hc0 hp h hs
  go_enter Try.func57, Try.ntmps57
  go_wp2
  go_loopg [8] l0.length (fun kq v8 w' => ∃ (i : Int), v8 = .int .i64 i ∧ Aside0 (0 ≤ i ∧ i ≤ l0.length) ∧ Aside0 (Vu q i (l0.drop i.toNat) = some r) ∧ Aside0 (l0.length - i.toNat ≤ kq) ∧ Aside0 (Below w.heap.size w w'))
  case atStart => exact ⟨0, rfl, ⟨Int.le_refl _, by omega⟩, ⟨by simpa using H0.out⟩, ⟨by simp⟩, ⟨Below.refl _ _⟩⟩
  case round =>
    clear H0
    obtain ⟨i, rfl, HI, HD, HK, HB⟩ := hrel
    by_cases c3 : i < (l0.length : Int)
    · have hi0 := HI.out.1
      have hi : i.toNat < l0.length := by omega
      have hi1 : (i + 1).toNat = i.toNat + 1 := by omega
      have c3b0 : decide (i < (l0.length : Int)) = true := decide_eq_true c3
      obtain ⟨ad, ead, hx⟩ := Kd.qm (Kd.zI HR0.out HB.out) i hi0 c3
      cases ead
      have hd := HD.out
      rw [List.drop_eq_getElem_cons hi] at hd
      simp only [Vu, Option.bind_eq_some_iff] at hd
      obtain ⟨b, hb, hd⟩ := hd
      have hrd : rd l0 i = l0[i.toNat] := by simp [rd, List.getElem?_eq_getElem hi]
      rw [← hrd] at hb
      have HD' := Aside0.mk hd
      have HBb := Aside0.mk hb
      have HI1 := Aside0.mk hi1
      have HI2 := Aside0.mk (show 0 ≤ i ∧ i + 1 ≤ l0.length by omega)
      have p7 := eq_true hi0
      have q7 := eq_true c3
      clear hd hb hrd HD hi hi0 c3 hi1
      have hcall := HP.out _ _ _ HBb.out HB.out
      cases b with
      | true =>
        have hr := HD'.out
        simp only [if_true, Option.some.injEq] at hr
        subst hr
        clear HD'
        go_wp2
        refine hcall.mono ?_
        rintro e w' ⟨rfl, hb⟩
        have n0_ := Aside0.mk (ze HB.out hb)
        clear HB hb hx hcall; have HB := n0_; clear n0_
        go_wp2
        go_ret
        exact ⟨rfl, HB.out⟩
      | false =>
        have hr := HD'.out
        simp only [Bool.false_eq_true, if_false] at hr
        have HD2 := Aside0.mk hr
        clear HD' hr
        go_wp2
        refine hcall.mono ?_
        rintro e w' ⟨rfl, hb⟩
        have n0_ := Aside0.mk (ze HB.out hb)
        clear HB hb hx hcall; have HB := n0_; clear n0_
        go_wp2
        go_roundg (l0.length - (i.toNat + 1))
        case measure => have := HK.out; have := HI2.out; omega
        case rel => exact ⟨i + 1, by rw [show wrap64 (i + 1) = i + 1 from by unfold wrap64; have := HI2.out; have := HS.out; omega], ⟨by have := HI2.out; omega⟩, ⟨by rw [HI1.out]; exact HD2.out⟩, ⟨by rw [HI1.out]; exact Nat.le_refl _⟩, HB⟩
    · have c3b0 : decide (i < (l0.length : Int)) = false := decide_eq_false c3
      have hi : i.toNat = l0.length := by have := HI.out; omega
      have hd := HD.out
      rw [hi, List.drop_length] at hd
      simp only [Vu, Option.some.injEq] at hd
      subst hd
      clear HD hi
      go_wp2
      go_ret
      exact ⟨rfl, HB.out⟩
theorem jz (q : Int → Option Bool) (g : Nat) (lb : Array Value) (eg : ∀ args w, (callFunc g args).run Try.prog w = .ok (.enter g args) w) (A0 : Option Addr) (c0 : Nat) (l0 : List Int) (r : Bool) (w : World)
    (hp : JI g lb q w) (hr0 : Kd.C (Kd.int .i64) w A0 l0.length l0) (hc0 : l0.length ≤ c0) (hs : l0.length ≤ 17592186044416) (h : Qk q l0 = some r) :
    Calls Try.prog 45 #[.slice A0 l0.length c0, .func (.func g) #[] lb] w fun e w' => e = .returned (.bool r) ∧ Below w.heap.size w w' := by
  obtain ⟨m, hm, rfl⟩ := VY q l0 0 r (by decide) h
  have hcall := QB q g lb eg A0 c0 l0 m
  have HR0 := Aside0.mk hr0
  have HC0 := Aside0.mk hc0
  have HP := Aside0.mk hp
  have H0 := Aside0.mk hm
  have HS := Aside0.mk hs
  clear hr0 hc0 hp h hm hs
  go_enter Try.func45, Try.ntmps45
  go_wp2_with (go_at_call 57; refine (hcall _ HP.out HR0.out HC0.out HS.out H0.out).mono ?_; rintro e w' ⟨rfl, hb⟩)
  go_ret
  exact ⟨rfl, hb⟩
end Go.Proofs.Ytjlbfbpjcmjdfaa.F
end
section
namespace Go.Proofs.Ytjlbfbpjcmjdfaa.F
open Go.RowKit Go.Proofs.YtjlbfbpjcmjdfaaW.PrintWords Go.Proofs.YtjlbfbpjcmjdfaaW.PrintLast Go.Proofs.YtjlbfbpjcmjdfaaW.PrintMore
/-- What stays as1 it is while the loops run: the two variables in memory, the list, and all that lay. -/
structure FFS (w0 w' : World) (gm gr : Nat) (n : Int) (A : Option Addr) (c : Nat) (l : List Int) : Prop where
  m : w'.heap[gm]? = some (.cells #[.int .i64 n, .slice A l.length c] 27 (0, 0))
  r : w'.heap[gr]? = some (.cells #[.int .i64 0, .int .i64 0, .int .i64 0] 58 (0, 0))
  C : Kd.C (Kd.int .i64) w' A l.length l
  B : Below w0.heap.size w0 w'
theorem FFS.below {w0 w1 w2 : World} {gm gr : Nat} {n : Int} {A : Option Addr} {c : Nat} {l : List Int} (h : FFS w0 w1 gm gr n A c l) (k : Below w1.heap.size w1 w2) : FFS w0 w2 gm gr n A c l :=
  ⟨zd h.m k, zd h.r k, Kd.zI h.C k, ze h.B k⟩
/-- A new variable in memory, and the value put into it. -/
theorem Z2 {w w1 : World} {g : Nat} {t : TypeId} {u v : Value} (hg : g = w.heap.size) (hbox : w1.heap[g]? = some (.cells #[u] t (0, 0))) (hb : Below w.heap.size w w1) :
    (w1.setCell ⟨g, 0, none⟩ v).heap[g]? = some (.cells #[v] t (0, 0)) ∧ Below w.heap.size w (w1.setCell ⟨g, 0, none⟩ v) :=
  ⟨(Yt hbox 0 v).trans rfl, qa hb (by rw [hg]; exact Nat.le_refl _)⟩
end Go.Proofs.Ytjlbfbpjcmjdfaa.F
end
section
namespace Go.Proofs.Ytjlbfbpjcmjdfaa.F
open Go.RowKit Go.Proofs.YtjlbfbpjcmjdfaaW.PrintWords Go.Proofs.YtjlbfbpjcmjdfaaW.PrintLast Go.Proofs.YtjlbfbpjcmjdfaaW.PrintMore
set_option linter.unusedSimpArgs false
set_option linter.unusedVariables false
/-- Does f put for e make a base of a? -/
def zj.q (k : Nat) (l : List Int) (a e : Int) (x : Int) : Option Bool :=
  if 0 ≤ e then (if 0 ≤ x then jZ.f k l (Go.bits .or .i64 (Go.bits .andNot .i64 a (shl .i64 1 e)) (shl .i64 1 x)) else none) else none
mutual
def zj.l0 : Nat → List Int → Int → Option (Int × Int × Int × Bool)
  | 0, _, _ => none
  | k + 1, l, x21 => if x21 < (l.length : Int) then (if 0 ≤ x21 then zj.l1 k l x21 0 else none) else some (0, 0, 0, false)
def zj.l1 : Nat → List Int → Int → Int → Option (Int × Int × Int × Bool)
  | 0, _, _, _ => none
  | k + 1, l, x21, x28 => if x28 < (l.length : Int) then (if 0 ≤ x28 then ((zA.f k (Go.bits .andNot .i64 (rd l x21) (rd l x28))).bind fun es => zj.l2 k l x21 x28 es 0) else none) else zj.l0 k l (wrap64 (x21 + 1))
def zj.l2 : Nat → List Int → Int → Int → List Int → Int → Option (Int × Int × Int × Bool)
  | 0, _, _, _, _, _ => none
  | k + 1, l, x21, x28, es, x37 =>
    if x37 < (es.length : Int) then
      (if 0 ≤ x37 then ((zA.f k (Go.bits .andNot .i64 (rd l x28) (rd l x21))).bind fun fs => (if fs.length ≤ 17592186044416 then ((Qk (zj.q k l (rd l x21) (rd es x37)) fs).bind fun t =>
        if t = true then zj.l2 k l x21 x28 es (wrap64 (x37 + 1)) else some (rd l x21, rd l x28, rd es x37, true)) else none)) else none)
    else zj.l1 k l x21 (wrap64 (x28 + 1))
end
def zj.f (k : Nat) (a0_0 : Int) (l0_1 : List Int) : Option (Int × Int × Int × Bool) :=
  (zK.f k a0_0 l0_1).bind fun t => if t = true then zj.l0 k l0_1 0 else some (0, 0, 0, false)
theorem zj.pred (k : Nat) (l : List Int) (a e n : Int) (A : Option Addr) (c gm ga ge : Nat) (w : World) (hm : w.heap[gm]? = some (.cells #[.int .i64 n, .slice A l.length c] 27 (0, 0)))
    (ha : w.heap[ga]? = some (.cells #[.int .i64 a] 3 (0, 0))) (he : w.heap[ge]? = some (.cells #[.int .i64 e] 3 (0, 0))) (hr : Kd.C (Kd.int .i64) w A l.length l) (hc : l.length ≤ c) :
    JI 58 #[.pointer (some ⟨gm, 0, none⟩), .pointer (some ⟨ga, 0, none⟩), .pointer (some ⟨ge, 0, none⟩)] (zj.q k l a e) w := by
  intro W x r hq hb
  unfold zj.q at hq
  by_cases h0 : 0 ≤ e
  · rw [if_pos h0] at hq
    by_cases h1 : 0 ≤ x
    · rw [if_pos h1] at hq
      have hc0 : W.cell? ⟨gm, 1, none⟩ = some (.slice A l.length c) := (zb (zd hm hb) 1).trans rfl
      have hc1 : W.cell? ⟨ga, 0, none⟩ = some (.int .i64 a) := (zb (zd ha hb) 0).trans rfl
      have hc2 : W.cell? ⟨ge, 0, none⟩ = some (.int .i64 e) := (zb (zd he hb) 0).trans rfl
      have HR := Aside0.mk (Kd.zI hr hb)
      have HC := Aside0.mk hc
      have hu := Try.underlying27
      obtain ⟨j1, hj1⟩ : ∃ j_ : Int, (shl .i64 1 e) = j_ := ⟨_, rfl⟩
      obtain ⟨j2, hj2⟩ : ∃ j_ : Int, (shl .i64 1 x) = j_ := ⟨_, rfl⟩
      rw [hj1, hj2] at hq
      have H := Aside0.mk hq
      clear hq hm ha he hr hc hb
      have hj1_ : (IntKind.i64.wrap (1 * 2 ^ min e.toNat 64)) = j1 := hj1
      have hj1u : (IntKind.i64.wrap (2 ^ min e.toNat 64)) = j1 := by have h_ := hj1_; rw [Int.one_mul] at h_; exact h_
      have hj1y : (wrap64 (1 * 2 ^ min e.toNat 64)) = j1 := (zk _).symm.trans hj1_
      have hj2_ : (IntKind.i64.wrap (1 * 2 ^ min x.toNat 64)) = j2 := hj2
      have hj2u : (IntKind.i64.wrap (2 ^ min x.toNat 64)) = j2 := by have h_ := hj2_; rw [Int.one_mul] at h_; exact h_
      have hj2y : (wrap64 (1 * 2 ^ min x.toNat 64)) = j2 := (zk _).symm.trans hj2_
      have c0b0 : decide (0 ≤ e) = true := decide_eq_true h0
      have c1b0 : decide (0 ≤ x) = true := decide_eq_true h1
      replace h0 := eq_true h0
      replace h1 := eq_true h1
      go_enter Try.func58, Try.ntmps58
      go_wp2
      repeat (go_quiet ((go_at_call 59; (try simp only [zk, zm]); (with_reducible refine (jZ.calls k _ _ l _ r _ ?side1 HC.out H.out).mono ?_); (case side1 => repeat (first | exact HR.out | (with_reducible refine Kd.vW ?_ _) | (with_reducible refine Kd.yQ ?_))); rintro e w' ⟨rfl, ⟨nd, rfl⟩⟩; (try first | exact ⟨rfl, _, World.drewN_drewN _ _ _⟩ | exact ⟨rfl, _, Eq.trans (World.drewN_drewN _ _ _) (congrArg (World.drewN _) (Nat.add_assoc _ _ _))⟩))); try go_wp2)
      go_ret
      exact ⟨rfl, by repeat (first | exact Below.refl _ _ | apply qf | apply z7)⟩
    · rw [if_neg h1] at hq; exact absurd hq (by simp)
  · rw [if_neg h0] at hq; exact absurd hq (by simp)
theorem zj.calls (k : Nat) (a0_0 : Int) (A0_1 : Option Addr) (c0_1 : Nat) (l0_1 : List Int) (r1 : Int) (r2 : Int) (r3 : Int) (r4 : Bool) (w : World) (hr0_1 : Kd.C (Kd.int .i64) w A0_1 l0_1.length l0_1) (hc0_1 : l0_1.length ≤ c0_1) (h : zj.f k a0_0 l0_1 = some (r1, r2, r3, r4)) :
    Calls Try.prog 48 #[.agg #[.int .i64 a0_0, .slice A0_1 l0_1.length c0_1]] w fun e w' => e = .returned (.tuple #[.agg #[.int .i64 r1, .int .i64 r2, .int .i64 r3], .bool r4]) ∧ Below w.heap.size w w' := by
  have hum := Try.underlying27
  have huf := Try.underlying58
  have HR := Aside0.mk hr0_1
  have HC := Aside0.mk hc0_1
  have HB := Aside0.mk (Below.refl w.heap.size w)
  clear hr0_1 hc0_1
  unfold zj.f at h
  obtain ⟨t0, ht0, h⟩ := Option.bind_eq_some_iff.mp h
  have HT := Aside0.mk ht0
  clear ht0
  have H := Aside0.mk h
  clear h
  cases t0 with
  | false =>
    go_enter Try.func48, Try.ntmps48
    go_wp2_with (first
      | ((with_reducible refine zq (N := 1) rfl ?_); refine zo ?hg (N := 1) ?hd (cs := #[.int .i64 a0_0, .slice A0_1 l0_1.length c0_1]) (t := 27) ?hr ?_; (case hd => rfl); (case hg => rfl); (case hr => exact sqG); intro gm hg w4 hbox hb; have HB1 := Aside0.mk hb; have BKm := Aside0.mk hbox; have HG1 := Aside0.mk hg; clear hb hbox hg)
      | ((with_reducible refine zq (N := 2) rfl ?_); refine zo ?hg (N := 2) ?hd (cs := #[.int .i64 0, .int .i64 0, .int .i64 0]) (t := 58) ?hr ?_; (case hd => rfl); (case hg => rfl); (case hr => exact sqG); intro gr hg w5 hbox hb; have HG2 := Aside0.mk hg; have HGr := Aside0.mk (show w.heap.size ≤ gr from by rw [hg]; exact HB1.out.size); have HNE := Aside0.mk (show gm ≠ gr from by rw [hg]; exact Nat.ne_of_lt (zz BKm.out)); have HS := Aside0.mk (FFS.mk (n := a0_0) (A := A0_1) (c := c0_1) (l := l0_1) (gm := gm) (gr := gr) (w0 := w) (zd BKm.out hb) hbox (Kd.zI HR.out (ze HB1.out hb)) (ze HB1.out hb)); clear BKm HB1 hb hbox hg; have hcz0 : w5.cell? ⟨gm, 0, none⟩ = some (.int .i64 a0_0) := (zb HS.out.m 0).trans rfl; have hcz1 : w5.cell? ⟨gm, 1, none⟩ = some (.slice A0_1 l0_1.length c0_1) := (zb HS.out.m 1).trans rfl)
      | ((with_reducible refine zf (f := 49) rfl ?_); refine zu (some 15) rfl rfl Try.func49 (by kernel_rfl) rfl #[.int .i64 a0_0, .slice A0_1 l0_1.length c0_1] rfl (by (try simp only [List.map_toArray, List.map_cons, List.map_nil]); first | done | rfl) ?_; (with_reducible refine (zK.calls k a0_0 _ _ l0_1 false _ HS.out.C HC.out HT.out).mono ?_); rintro e w' ⟨rfl, ⟨nd, rfl⟩⟩; refine ⟨_, rfl, ?_⟩; generalize hw6 : w5.drewN nd = w6; have HS6 := Aside0.mk (HS.out.below (w2 := w6) (by rw [← hw6]; exact z7 (Below.refl _ _) nd)); clear hw6 HS hcz0 hcz1; have HS := HS6; clear HS6; have hne := HNE.out; have hne2 := HNE.out.symm; have hcr0 : w6.cell? ⟨gr, 0, none⟩ = some (.int .i64 0) := (zb HS.out.r 0).trans rfl; have hcr1 : w6.cell? ⟨gr, 1, none⟩ = some (.int .i64 0) := (zb HS.out.r 1).trans rfl; have hcr2 : w6.cell? ⟨gr, 2, none⟩ = some (.int .i64 0) := (zb HS.out.r 2).trans rfl; have hfr0 := za HS.out.r 0; have hfr1 := za HS.out.r 1; have hfr2 := za HS.out.r 2))
    refine bodyPost_ret (vu rfl _ _ gr 58 #[.int .i64 0, .int .i64 0, .int .i64 0] (0, 0) _ rfl (by refine zL (cs := #[.int .i64 0, .int .i64 0, .int .i64 0]) ?_ 2 _ rfl; refine zL (cs := #[.int .i64 0, .int .i64 0, .int .i64 0]) ?_ 1 _ rfl; refine zL (cs := #[.int .i64 0, .int .i64 0, .int .i64 0]) ?_ 0 _ rfl; exact HS.out.r) Try.underlying58 rfl (by kernel_rfl)) rfl ?_
    have hh := H.out
    simp only [Bool.false_eq_true, if_false, Option.some.injEq, Prod.mk.injEq] at hh
    obtain ⟨rfl, rfl, rfl, rfl⟩ := hh
    exact ⟨rfl, by repeat (first | exact HS.out.B | refine qa ?_ HGr.out)⟩
  | true =>
    go_enter Try.func48, Try.ntmps48
    go_wp2_with (first
      | ((with_reducible refine zq (N := 1) rfl ?_); refine zo ?hg (N := 1) ?hd (cs := #[.int .i64 a0_0, .slice A0_1 l0_1.length c0_1]) (t := 27) ?hr ?_; (case hd => rfl); (case hg => rfl); (case hr => exact sqG); intro gm hg w4 hbox hb; have HB1 := Aside0.mk hb; have BKm := Aside0.mk hbox; have HG1 := Aside0.mk hg; clear hb hbox hg)
      | ((with_reducible refine zq (N := 2) rfl ?_); refine zo ?hg (N := 2) ?hd (cs := #[.int .i64 0, .int .i64 0, .int .i64 0]) (t := 58) ?hr ?_; (case hd => rfl); (case hg => rfl); (case hr => exact sqG); intro gr hg w5 hbox hb; have HG2 := Aside0.mk hg; have HGr := Aside0.mk (show w.heap.size ≤ gr from by rw [hg]; exact HB1.out.size); have HNE := Aside0.mk (show gm ≠ gr from by rw [hg]; exact Nat.ne_of_lt (zz BKm.out)); have HS := Aside0.mk (FFS.mk (n := a0_0) (A := A0_1) (c := c0_1) (l := l0_1) (gm := gm) (gr := gr) (w0 := w) (zd BKm.out hb) hbox (Kd.zI HR.out (ze HB1.out hb)) (ze HB1.out hb)); clear BKm HB1 hb hbox hg; have hcz0 : w5.cell? ⟨gm, 0, none⟩ = some (.int .i64 a0_0) := (zb HS.out.m 0).trans rfl; have hcz1 : w5.cell? ⟨gm, 1, none⟩ = some (.slice A0_1 l0_1.length c0_1) := (zb HS.out.m 1).trans rfl)
      | ((with_reducible refine zf (f := 49) rfl ?_); refine zu (some 15) rfl rfl Try.func49 (by kernel_rfl) rfl #[.int .i64 a0_0, .slice A0_1 l0_1.length c0_1] rfl (by (try simp only [List.map_toArray, List.map_cons, List.map_nil]); first | done | rfl) ?_; (with_reducible refine (zK.calls k a0_0 _ _ l0_1 true _ HS.out.C HC.out HT.out).mono ?_); rintro e w' ⟨rfl, ⟨nd, rfl⟩⟩; refine ⟨_, rfl, ?_⟩; generalize hw6 : w5.drewN nd = w6; have HS6 := Aside0.mk (HS.out.below (w2 := w6) (by rw [← hw6]; exact z7 (Below.refl _ _) nd)); clear hw6 HS hcz0 hcz1; have HS := HS6; clear HS6; have hcz1 : w6.cell? ⟨gm, 1, none⟩ = some (.slice A0_1 l0_1.length c0_1) := (zb HS.out.m 1).trans rfl))
    have H0 := Aside0.mk (show zj.l0 k l0_1 0 = some (r1, r2, r3, r4) by have hh := H.out; simpa using hh)
    clear H hcz1
    go_loopg [21] k (fun kq v21 w' => ∃ (x21 : Int), v21 = .int .i64 x21 ∧ Aside0 (zj.l0 kq l0_1 x21 = some (r1, r2, r3, r4)) ∧ Aside0 (kq ≤ k) ∧ Aside0 (FFS w w' gm gr a0_0 A0_1 c0_1 l0_1))
    case atStart => exact ⟨0, rfl, H0, ⟨Nat.le_refl _⟩, HS⟩
    case round =>
      clear H0 HS HB HG1 HG2
      obtain ⟨x21, rfl, HA, HK1, HS⟩ := hrel
      cases gk with
      | zero => exact absurd HA.out (by simp [zj.l0])
      | succ k1 =>
        have H := HA.out
        clear HA
        simp only [zj.l0] at H
        by_cases c1 : x21 < (l0_1.length : Int)
        · rw [if_pos c1] at H
          by_cases c2 : 0 ≤ x21
          · rw [if_pos c2] at H
            have H1 := Aside0.mk H
            clear H
            have c1b0 : decide (x21 < (l0_1.length : Int)) = true := decide_eq_true c1
            have c2b0 : decide (0 ≤ x21) = true := decide_eq_true c2
            obtain ⟨ad1, e1, hx1⟩ := Kd.qm HS.out.C x21 c2 c1
            cases e1
            replace c1 := eq_true c1
            replace c2 := eq_true c2
            have hcz1 : wr.cell? ⟨gm, 1, none⟩ = some (.slice (some ad1) l0_1.length c0_1) := (zb HS.out.m 1).trans rfl
            go_wp2_with (first
              | ((with_reducible refine zq (N := 5) rfl ?_); refine zo ?hg (N := 5) ?hd (cs := #[.int .i64 0]) (t := 3) ?hr ?_; (case hd => rfl); (case hg => rfl); (case hr => exact sqG); intro ga hg w7 hbox hb; have HG3 := Aside0.mk hg; have BKa := Aside0.mk hbox; have HBa := Aside0.mk hb; have hca : w7.cell? ⟨ga, 0, none⟩ = some (.int .i64 0) := (zb BKa.out 0).trans rfl; have hfa := za BKa.out 0; clear hg hbox hb hx1 hcz1)
              | ((with_reducible refine jq (t := 3) (p := 5) rfl ?_); refine jb (t := 3) (p := 5) (v := ?vo_w8) (w1 := (w7.setCell ⟨ga, 0, none⟩ (.int .i64 (rd l0_1 x21)))) ?hg ?ho ?hn ?hr ?_; (case ho => rfl); (case hg => rfl); (case hn => rfl); (case hr => exact sqG); intro w8 hw; have hp_ := Z2 (v := .int .i64 (rd l0_1 x21)) HG3.out BKa.out HBa.out; rw [← hw] at hp_; have HS8 := Aside0.mk (HS.out.below hp_.2); have BK8 := Aside0.mk hp_.1; clear hp_ hw BKa HBa HG3 HS hca hfa; have HS := HS8; have BKa := BK8; clear HS8 BK8; have hcz1 : w8.cell? ⟨gm, 1, none⟩ = some (.slice (some ad1) l0_1.length c0_1) := (zb HS.out.m 1).trans rfl))
            clear hcz1
            go_loopg [28] k1 (fun kq v28 w' => ∃ (x28 : Int), v28 = .int .i64 x28 ∧ Aside0 (zj.l1 kq l0_1 x21 x28 = some (r1, r2, r3, r4)) ∧ Aside0 (kq ≤ k1) ∧ Aside0 (FFS w w' gm gr a0_0 (some ad1) c0_1 l0_1) ∧ Aside0 (w'.heap[ga]? = some (.cells #[.int .i64 (rd l0_1 x21)] 3 (0, 0))))
            case atStart => exact ⟨0, rfl, H1, ⟨Nat.le_refl _⟩, HS, BKa⟩
            case round =>
              clear H1 HS BKa
              obtain ⟨x28, rfl, HA, HK2, HS, BKa⟩ := hrel
              cases gk with
              | zero => exact absurd HA.out (by simp [zj.l1])
              | succ k2 =>
                have H := HA.out
                clear HA
                simp only [zj.l1] at H
                by_cases c3 : x28 < (l0_1.length : Int)
                · rw [if_pos c3] at H
                  by_cases c4 : 0 ≤ x28
                  · rw [if_pos c4] at H
                    obtain ⟨es, hes, H⟩ := Option.bind_eq_some_iff.mp H
                    have H1 := Aside0.mk H
                    have HE := Aside0.mk hes
                    clear H hes
                    have c3b0 : decide (x28 < (l0_1.length : Int)) = true := decide_eq_true c3
                    have c4b0 : decide (0 ≤ x28) = true := decide_eq_true c4
                    obtain ⟨ad2, e2, hx2⟩ := Kd.qm HS.out.C x28 c4 c3
                    cases e2
                    replace c3 := eq_true c3
                    replace c4 := eq_true c4
                    have hca : wr.cell? ⟨ga, 0, none⟩ = some (.int .i64 (rd l0_1 x21)) := (zb BKa.out 0).trans rfl
                    go_wp2_with ((with_reducible refine zf (f := 51) rfl ?_); refine zu (some 35) rfl rfl Try.func51 (by kernel_rfl) rfl #[.int .i64 (Go.bits .andNot .i64 (rd l0_1 x21) (rd l0_1 x28))] rfl (by (try simp only [List.map_toArray, List.map_cons, List.map_nil]); first | done | rfl) ?_; (with_reducible refine (zA.calls k2 _ es _ HE.out).mono ?_); rintro e w9 ⟨ve, rfl, ho, hb⟩; refine ⟨_, rfl, ?_⟩; obtain ⟨Ae, ce, ee⟩ := Kd.z8 ho; subst ee; have HCE := Aside0.mk (Kd.zx ho).2.2; have HLE := Aside0.mk (Kd.zx ho).2.1; have HS9 := Aside0.mk (HS.out.below hb); have BK9 := Aside0.mk (zd BKa.out hb); clear ho hb HS BKa hx2 hca; have HS := HS9; have BKa := BK9; clear HS9 BK9)
                    go_loopg [37] k2 (fun kq v37 w' => ∃ (x37 : Int), v37 = .int .i64 x37 ∧ Aside0 (zj.l2 kq l0_1 x21 x28 es x37 = some (r1, r2, r3, r4)) ∧ Aside0 (kq ≤ k2) ∧ Aside0 (FFS w w' gm gr a0_0 (some ad1) c0_1 l0_1) ∧ Aside0 (w'.heap[ga]? = some (.cells #[.int .i64 (rd l0_1 x21)] 3 (0, 0))) ∧ Aside0 (Kd.C (Kd.int .i64) w' Ae es.length es))
                    case atStart => exact ⟨0, rfl, H1, ⟨Nat.le_refl _⟩, HS, BKa, HCE⟩
                    case round =>
                      clear H1 HS BKa HCE HE
                      obtain ⟨x37, rfl, HA, HK3, HS, BKa, HCE⟩ := hrel
                      cases gk with
                      | zero => exact absurd HA.out (by simp [zj.l2])
                      | succ k3 =>
                        have H := HA.out
                        clear HA
                        simp only [zj.l2] at H
                        by_cases c5 : x37 < (es.length : Int)
                        · rw [if_pos c5] at H
                          by_cases c6 : 0 ≤ x37
                          · rw [if_pos c6] at H
                            obtain ⟨fs, hfs, H⟩ := Option.bind_eq_some_iff.mp H
                            by_cases c7 : fs.length ≤ 17592186044416
                            · rw [if_pos c7] at H
                              obtain ⟨tt, htt, H⟩ := Option.bind_eq_some_iff.mp H
                              have HF := Aside0.mk hfs
                              have HLF := Aside0.mk c7
                              have HAny := Aside0.mk htt
                              have H1 := Aside0.mk H
                              clear H hfs c7 htt
                              have c5b0 : decide (x37 < (es.length : Int)) = true := decide_eq_true c5
                              have c6b0 : decide (0 ≤ x37) = true := decide_eq_true c6
                              obtain ⟨ad3, e3, hx3⟩ := Kd.qm HCE.out x37 c6 c5
                              cases e3
                              replace c5 := eq_true c5
                              replace c6 := eq_true c6
                              cases tt with
                              | true =>
                                go_wp2_with (first
                                  | ((with_reducible refine zq (N := 9) rfl ?_); refine zo ?hg (N := 9) ?hd (cs := #[.int .i64 0]) (t := 3) ?hr ?_; (case hd => rfl); (case hg => rfl); (case hr => exact sqG); intro ge hg w10 hbox hb; have HG4 := Aside0.mk hg; have BKe := Aside0.mk hbox; have HBe := Aside0.mk hb; have hce : w10.cell? ⟨ge, 0, none⟩ = some (.int .i64 0) := (zb BKe.out 0).trans rfl; have hfe := za BKe.out 0; clear hg hbox hb hx3)
                                  | ((with_reducible refine jq (t := 3) (p := 9) rfl ?_); refine jb (t := 3) (p := 9) (v := ?vo_w11) (w1 := (w10.setCell ⟨ge, 0, none⟩ (.int .i64 (rd es x37)))) ?hg ?ho ?hn ?hr ?_; (case ho => rfl); (case hg => rfl); (case hn => rfl); (case hr => exact sqG); intro w11 hw; have hp_ := Z2 (v := .int .i64 (rd es x37)) HG4.out BKe.out HBe.out; rw [← hw] at hp_; have HS8 := Aside0.mk (HS.out.below hp_.2); have BK8 := Aside0.mk hp_.1; have BK7 := Aside0.mk (zd BKa.out hp_.2); have HC8 := Aside0.mk (Kd.zI HCE.out hp_.2); clear hp_ hw BKe HBe HG4 HS hce hfe BKa HCE; have HS := HS8; have BKe := BK8; have BKa := BK7; have HCE := HC8; clear HS8 BK8 BK7 HC8; have hca : w11.cell? ⟨ga, 0, none⟩ = some (.int .i64 (rd l0_1 x21)) := (zb BKa.out 0).trans rfl)
                                  | ((with_reducible refine zf (f := 51) rfl ?_); refine zu (some 44) rfl rfl Try.func51 (by kernel_rfl) rfl #[.int .i64 (Go.bits .andNot .i64 (rd l0_1 x28) (rd l0_1 x21))] rfl (by (try simp only [List.map_toArray, List.map_cons, List.map_nil]); first | done | rfl) ?_; (with_reducible refine (zA.calls k3 _ fs _ HF.out).mono ?_); rintro e w12 ⟨vf, rfl, ho, hb⟩; refine ⟨_, rfl, ?_⟩; obtain ⟨Af, cf, ef⟩ := Kd.z8 ho; subst ef; have HCF := Aside0.mk (Kd.zx ho).2.2; have HLF2 := Aside0.mk (Kd.zx ho).2.1; have HS8 := Aside0.mk (HS.out.below hb); have BK8 := Aside0.mk (zd BKe.out hb); have BK7 := Aside0.mk (zd BKa.out hb); have HC8 := Aside0.mk (Kd.zI HCE.out hb); clear ho hb BKe HS BKa HCE hca; have HS := HS8; have BKe := BK8; have BKa := BK7; have HCE := HC8; clear HS8 BK8 BK7 HC8))
                                refine (jz (zj.q k3 l0_1 (rd l0_1 x21) (rd es x37)) _ _ (enters_of Try.func58 (by kernel_rfl) rfl) _ _ fs true _ (zj.pred k3 l0_1 (rd l0_1 x21) (rd es x37) a0_0 _ c0_1 gm ga ge _ HS.out.m BKa.out BKe.out HS.out.C HC.out) HCF.out HLF2.out HLF.out HAny.out).mono ?_
                                rintro e w13 ⟨rfl, hb⟩
                                have HS8 := Aside0.mk (HS.out.below hb)
                                have BK8 := Aside0.mk (zd BKe.out hb)
                                have BK7 := Aside0.mk (zd BKa.out hb)
                                have HC8 := Aside0.mk (Kd.zI HCE.out hb)
                                clear hb BKe HS BKa HCE HCF
                                have HS := HS8
                                have BKe := BK8
                                have BKa := BK7
                                have HCE := HC8
                                clear HS8 BK8 BK7 HC8
                                go_wp2
                                go_roundg k3
                                case measure => have := HK1.out; have := HK2.out; have := HK3.out; omega
                                case rel => exact ⟨wrap64 (x37 + 1), rfl, ⟨by have hh := H1.out; simpa using hh⟩, ⟨by have := HK3.out; omega⟩, HS, BKa, HCE⟩
                              | false =>
                                have hh := H1.out
                                simp only [Bool.false_eq_true, if_false, Option.some.injEq, Prod.mk.injEq] at hh
                                obtain ⟨rfl, rfl, rfl, rfl⟩ := hh
                                clear H1
                                have hne := HNE.out
                                have hne2 := HNE.out.symm
                                go_wp2_with (first
                                  | ((with_reducible refine zq (N := 9) rfl ?_); refine zo ?hg (N := 9) ?hd (cs := #[.int .i64 0]) (t := 3) ?hr ?_; (case hd => rfl); (case hg => rfl); (case hr => exact sqG); intro ge hg w10 hbox hb; have HG4 := Aside0.mk hg; have BKe := Aside0.mk hbox; have HBe := Aside0.mk hb; have hce : w10.cell? ⟨ge, 0, none⟩ = some (.int .i64 0) := (zb BKe.out 0).trans rfl; have hfe := za BKe.out 0; clear hg hbox hb hx3)
                                  | ((with_reducible refine jq (t := 3) (p := 9) rfl ?_); refine jb (t := 3) (p := 9) (v := ?vo_w11) (w1 := (w10.setCell ⟨ge, 0, none⟩ (.int .i64 (rd es x37)))) ?hg ?ho ?hn ?hr ?_; (case ho => rfl); (case hg => rfl); (case hn => rfl); (case hr => exact sqG); intro w11 hw; have hp_ := Z2 (v := .int .i64 (rd es x37)) HG4.out BKe.out HBe.out; rw [← hw] at hp_; have HS8 := Aside0.mk (HS.out.below hp_.2); have BK8 := Aside0.mk hp_.1; have BK7 := Aside0.mk (zd BKa.out hp_.2); have HC8 := Aside0.mk (Kd.zI HCE.out hp_.2); clear hp_ hw BKe HBe HG4 HS hce hfe BKa HCE; have HS := HS8; have BKe := BK8; have BKa := BK7; have HCE := HC8; clear HS8 BK8 BK7 HC8; have hca : w11.cell? ⟨ga, 0, none⟩ = some (.int .i64 (rd l0_1 x21)) := (zb BKa.out 0).trans rfl)
                                  | ((with_reducible refine zf (f := 51) rfl ?_); refine zu (some 44) rfl rfl Try.func51 (by kernel_rfl) rfl #[.int .i64 (Go.bits .andNot .i64 (rd l0_1 x28) (rd l0_1 x21))] rfl (by (try simp only [List.map_toArray, List.map_cons, List.map_nil]); first | done | rfl) ?_; (with_reducible refine (zA.calls k3 _ fs _ HF.out).mono ?_); rintro e w12 ⟨vf, rfl, ho, hb⟩; refine ⟨_, rfl, ?_⟩; obtain ⟨Af, cf, ef⟩ := Kd.z8 ho; subst ef; have HCF := Aside0.mk (Kd.zx ho).2.2; have HLF2 := Aside0.mk (Kd.zx ho).2.1; have HS8 := Aside0.mk (HS.out.below hb); have BK8 := Aside0.mk (zd BKe.out hb); have BK7 := Aside0.mk (zd BKa.out hb); have HC8 := Aside0.mk (Kd.zI HCE.out hb); clear ho hb BKe HS BKa HCE hca; have HS := HS8; have BKe := BK8; have BKa := BK7; have HCE := HC8; clear HS8 BK8 BK7 HC8))
                                refine (jz (zj.q k3 l0_1 (rd l0_1 x21) (rd es x37)) _ _ (enters_of Try.func58 (by kernel_rfl) rfl) _ _ fs false _ (zj.pred k3 l0_1 (rd l0_1 x21) (rd es x37) a0_0 _ c0_1 gm ga ge _ HS.out.m BKa.out BKe.out HS.out.C HC.out) HCF.out HLF2.out HLF.out HAny.out).mono ?_
                                rintro e w13 ⟨rfl, hb⟩
                                have HS8 := Aside0.mk (HS.out.below hb)
                                have BK8 := Aside0.mk (zd BKe.out hb)
                                have BK7 := Aside0.mk (zd BKa.out hb)
                                have HC8 := Aside0.mk (Kd.zI HCE.out hb)
                                clear hb BKe HS BKa HCE HCF
                                have HS := HS8
                                have BKe := BK8
                                have BKa := BK7
                                have HCE := HC8
                                clear HS8 BK8 BK7 HC8
                                have hca : w13.cell? ⟨ga, 0, none⟩ = some (.int .i64 (rd l0_1 x21)) := (zb BKa.out 0).trans rfl
                                have hce : w13.cell? ⟨ge, 0, none⟩ = some (.int .i64 (rd es x37)) := (zb BKe.out 0).trans rfl
                                have hcr0 : w13.cell? ⟨gr, 0, none⟩ = some (.int .i64 0) := (zb HS.out.r 0).trans rfl
                                have hcr1 : w13.cell? ⟨gr, 1, none⟩ = some (.int .i64 0) := (zb HS.out.r 1).trans rfl
                                have hcr2 : w13.cell? ⟨gr, 2, none⟩ = some (.int .i64 0) := (zb HS.out.r 2).trans rfl
                                have hfr0 := za HS.out.r 0
                                have hfr1 := za HS.out.r 1
                                have hfr2 := za HS.out.r 2
                                go_wp2
                                refine bodyPost_ret (vu rfl _ _ gr 58 #[.int .i64 (rd l0_1 x21), .int .i64 (rd l0_1 x28), .int .i64 (rd es x37)] (0, 0) _ rfl (by refine zL (cs := #[.int .i64 (rd l0_1 x21), .int .i64 (rd l0_1 x28), .int .i64 0]) ?_ 2 _ rfl; refine zL (cs := #[.int .i64 (rd l0_1 x21), .int .i64 0, .int .i64 0]) ?_ 1 _ rfl; refine zL (cs := #[.int .i64 0, .int .i64 0, .int .i64 0]) ?_ 0 _ rfl; exact HS.out.r) Try.underlying58 rfl (by kernel_rfl)) rfl ?_
                                exact ⟨rfl, by repeat (first | exact HS.out.B | refine qa ?_ HGr.out)⟩
                            · rw [if_neg c7] at H
                              exact absurd H (by simp)
                          · rw [if_neg c6] at H
                            exact absurd H (by simp)
                        · rw [if_neg c5] at H
                          have H1 := Aside0.mk H
                          clear H
                          have c5b0 : decide (x37 < (es.length : Int)) = false := decide_eq_false c5
                          clear c5
                          go_wp2
                          go_roundg k3
                          case measure => have := HK1.out; have := HK2.out; have := HK3.out; omega
                          case rel => exact ⟨wrap64 (x28 + 1), rfl, H1, ⟨by have := HK2.out; have := HK3.out; omega⟩, HS, BKa⟩
                  · rw [if_neg c4] at H
                    exact absurd H (by simp)
                · rw [if_neg c3] at H
                  have H1 := Aside0.mk H
                  clear H
                  have c3b0 : decide (x28 < (l0_1.length : Int)) = false := decide_eq_false c3
                  clear c3
                  go_wp2
                  go_roundg k2
                  case measure => have := HK1.out; have := HK2.out; omega
                  case rel => exact ⟨wrap64 (x21 + 1), rfl, H1, ⟨by have := HK1.out; have := HK2.out; omega⟩, HS⟩
          · rw [if_neg c2] at H
            exact absurd H (by simp)
        · rw [if_neg c1] at H
          simp only [Option.some.injEq, Prod.mk.injEq] at H
          obtain ⟨rfl, rfl, rfl, rfl⟩ := H
          have c1b0 : decide (x21 < (l0_1.length : Int)) = false := decide_eq_false c1
          clear c1
          have hne := HNE.out
          have hne2 := HNE.out.symm
          have hcr0 : wr.cell? ⟨gr, 0, none⟩ = some (.int .i64 0) := (zb HS.out.r 0).trans rfl
          have hcr1 : wr.cell? ⟨gr, 1, none⟩ = some (.int .i64 0) := (zb HS.out.r 1).trans rfl
          have hcr2 : wr.cell? ⟨gr, 2, none⟩ = some (.int .i64 0) := (zb HS.out.r 2).trans rfl
          have hfr0 := za HS.out.r 0
          have hfr1 := za HS.out.r 1
          have hfr2 := za HS.out.r 2
          go_wp2
          refine bodyPost_ret (vu rfl _ _ gr 58 #[.int .i64 0, .int .i64 0, .int .i64 0] (0, 0) _ rfl (by refine zL (cs := #[.int .i64 0, .int .i64 0, .int .i64 0]) ?_ 2 _ rfl; refine zL (cs := #[.int .i64 0, .int .i64 0, .int .i64 0]) ?_ 1 _ rfl; refine zL (cs := #[.int .i64 0, .int .i64 0, .int .i64 0]) ?_ 0 _ rfl; exact HS.out.r) Try.underlying58 rfl (by kernel_rfl)) rfl ?_
          exact ⟨rfl, by repeat (first | exact HS.out.B | refine qa ?_ HGr.out)⟩
end Go.Proofs.Ytjlbfbpjcmjdfaa.F
end
section
namespace Go.Proofs.Ytjlbfbpjcmjdfaa.F
open Go.RowKit Go.Proofs.YtjlbfbpjcmjdfaaW.PrintWords Go.Proofs.YtjlbfbpjcmjdfaaW.PrintLast Go.Proofs.YtjlbfbpjcmjdfaaW.PrintMore
attribute [local go_sem] j9 j8 vO vV jO jP vl j6   -- for this text's walks alone
set_option linter.unusedVariables false
set_option linter.unusedSimpArgs false

def qM.f (k : Nat) (a0_0 : Int) (l0_1 : List Int) : Option (Bool) := (zj.f k a0_0 l0_1).bind fun bt184 => ((zK.f k a0_0 l0_1).bind fun t189 => (if t189 = true then (if (l0_1.length : Int) > 0 then (some (!bt184.2.2.2)) else (some false)) else (some false)))
theorem qM.calls (k : Nat) (a0_0 : Int) (A0_1 : Option Addr) (c0_1 : Nat) (l0_1 : List Int) (r : Bool) (w : World) (hr0_1 : Kd.C (Kd.int .i64) w A0_1 l0_1.length l0_1) (hc0_1 : l0_1.length ≤ c0_1) (h : qM.f k a0_0 l0_1 = some r) :
  Calls Try.prog 34 #[.agg #[.int .i64 a0_0, .slice A0_1 l0_1.length c0_1]] w fun e w' => e = .returned (.bool r) ∧ Below w.heap.size w w' := by
 have hu27 := Try.underlying27
 have hu58 := Try.underlying58
 have HR0_1 := Aside0.mk hr0_1
 have HC0_1 := Aside0.mk hc0_1
 clear hr0_1 hc0_1
 have HB := Aside0.mk (Below.refl w.heap.size w)
 have H : ((zj.f k a0_0 l0_1).bind fun bt184 => ((zK.f k a0_0 l0_1).bind fun t189 => (if t189 = true then (if (l0_1.length : Int) > 0 then (some (!bt184.2.2.2)) else (some false)) else (some false)))) = some r := h
 clear h
 replace H := Option.bind_eq_some_iff.mp H
 obtain ⟨⟨t184, t185, t186, t187⟩, A20, H⟩ := H
 replace H : ((zK.f k a0_0 l0_1).bind fun t189 => (if t189 = true then (if (l0_1.length : Int) > 0 then (some (!t187)) else (some false)) else (some false))) = some r := H
 have A2 := Aside0.mk A20
 clear A20
 replace H := Option.bind_eq_some_iff.mp H
 obtain ⟨t189, A30, H⟩ := H
 replace H : (if t189 = true then (if (l0_1.length : Int) > 0 then (some (!t187)) else (some false)) else (some false)) = some r := H
 have A3 := Aside0.mk A30
 clear A30
 by_cases c4 : t189 = true
 ·subst c4
  have H1 : (if (l0_1.length : Int) > 0 then (some (!t187)) else (some false)) = some r := by rw [if_pos rfl] at H; exact H
  clear H
  have H := H1
  clear H1
  by_cases c5 : (l0_1.length : Int) > 0
  ·rw [if_pos c5] at H
   have c5b0 : decide (0 < (l0_1.length : Int)) = true := decide_eq_true c5
   have c5b1 : decide (0 < l0_1.length) = true := decide_eq_true (by omega)
   clear c5
   obtain rfl := Option.some.inj H
   go_enter Try.func34, Try.ntmps34
   go_wp2_with (first | ((with_reducible refine zq (N := 1) rfl ?_); (try (refine jo (by rfl) ?_; dsimp only)); refine zo ?hg (N := 1) ?hd (cs := #[.int .i64 a0_0, .slice A0_1 l0_1.length c0_1]) (t := 27) ?hr ?_; (case hd => rfl); (case hg => rfl); (case hr => exact sqG); intro gb183 hg w6 hbox hb; have n0_ := Aside0.mk (ze sqB hb); have n1_ := Aside0.mk (hbox); have n2_ := Aside0.mk ((sqS hg : w.heap.size ≤ gb183)); have n3_ := Aside0.mk ((sqS hg : w.heap.size ≤ gb183)); clear HB; have HB := n0_; have BK183 := n1_; have GW183 := n2_; have GE183 := n3_; clear n0_ n1_ n2_ n3_; clear hb hbox hg; have hcz7_0 : w6.cell? ⟨gb183, 0, none⟩ = some (.int .i64 a0_0) := (zb BK183.out 0).trans rfl; have hcz7_1 : w6.cell? ⟨gb183, 1, none⟩ = some (.slice A0_1 l0_1.length c0_1) := (zb BK183.out 1).trans rfl; have hfz7_0 := za BK183.out 0; have hfz7_1 := za BK183.out 1) | ((with_reducible refine zf (f := 48) rfl ?_); refine zu (some 7) rfl rfl Try.func48 (by kernel_rfl) rfl #[.agg #[.int .i64 a0_0, .slice A0_1 l0_1.length c0_1]] rfl sqM ?_; (with_reducible refine (zj.calls k a0_0 _ _ l0_1 t184 t185 t186 t187 _ ?side1 ?side2 A2.out).mono ?_); (case side1 => exact sqC (Kd.zI HR0_1.out HB.out)); (case side2 => exact HC0_1.out); rintro e w8 ⟨rfl, hb⟩; refine ⟨_, rfl, ?_⟩; have n0_ := Aside0.mk (zd (g := gb183) (o := .cells #[.int .i64 a0_0, .slice A0_1 l0_1.length c0_1] 27 (0, 0)) (sqK BK183.out) hb); have n1_ := Aside0.mk (ze sqB hb); clear BK183; clear HB; have BK183 := n0_; have HB := n1_; clear n0_ n1_; (try clear hb); (try clear hb2); (try clear hk); (try clear hi)) | ((with_reducible refine zq (N := 3) rfl ?_); (try (refine jo (by rfl) ?_; dsimp only)); refine zo ?hg (N := 3) ?hd (cs := #[.int .i64 0, .int .i64 0, .int .i64 0]) (t := 58) ?hr ?_; (case hd => rfl); (case hg => rfl); (case hr => exact sqG); intro gb188 hg w9 hbox hb; have n0_ := Aside0.mk (zd (g := gb183) (o := .cells #[.int .i64 a0_0, .slice A0_1 l0_1.length c0_1] 27 (0, 0)) (sqK BK183.out) hb); have n1_ := Aside0.mk (ze sqB hb); have n2_ := Aside0.mk (hbox); have n3_ := Aside0.mk ((sqS hg : w.heap.size ≤ gb188)); have n4_ := Aside0.mk ((sqS hg : w.heap.size ≤ gb188)); have n5_ := Aside0.mk ((by rw [hg]; exact Nat.ne_of_lt (zz (g := gb183) (o := .cells #[.int .i64 a0_0, .slice A0_1 l0_1.length c0_1] 27 (0, 0)) (sqK BK183.out)) : gb183 ≠ gb188)); have n6_ := Aside0.mk ((by rw [hg]; exact Nat.ne_of_gt (zz (g := gb183) (o := .cells #[.int .i64 a0_0, .slice A0_1 l0_1.length c0_1] 27 (0, 0)) (sqK BK183.out)) : gb188 ≠ gb183)); clear BK183; clear HB; have BK183 := n0_; have HB := n1_; have BK188 := n2_; have GW188 := n3_; have GE188 := n4_; have NB183_188 := n5_; have NB188_183 := n6_; clear n0_ n1_ n2_ n3_ n4_ n5_ n6_; clear hb hbox hg; have hnb10 := NB188_183.out; have hnc10 := NB183_188.out; have hcz11_0 : w9.cell? ⟨gb188, 0, none⟩ = some (.int .i64 0) := (zb BK188.out 0).trans rfl; have hcz11_1 : w9.cell? ⟨gb188, 1, none⟩ = some (.int .i64 0) := (zb BK188.out 1).trans rfl; have hcz11_2 : w9.cell? ⟨gb188, 2, none⟩ = some (.int .i64 0) := (zb BK188.out 2).trans rfl; have hfz11_0 := za BK188.out 0; have hfz11_1 := za BK188.out 1; have hfz11_2 := za BK188.out 2; have hcz12_0 : w9.cell? ⟨gb183, 0, none⟩ = some (.int .i64 a0_0) := (zb BK183.out 0).trans rfl; have hcz12_1 : w9.cell? ⟨gb183, 1, none⟩ = some (.slice A0_1 l0_1.length c0_1) := (zb BK183.out 1).trans rfl; have hfz12_0 := za BK183.out 0; have hfz12_1 := za BK183.out 1) | ((with_reducible refine zf (f := 49) rfl ?_); refine zu (some 14) rfl rfl Try.func49 (by kernel_rfl) rfl #[.int .i64 a0_0, .slice A0_1 l0_1.length c0_1] rfl sqM ?_; (with_reducible refine (zK.calls k a0_0 _ _ l0_1 true _ ?side1 ?side2 A3.out).mono ?_); (case side1 => exact Kd.zI HR0_1.out sqB); (case side2 => exact HC0_1.out); rintro e w' ⟨rfl, ⟨nd, rfl⟩⟩; refine ⟨_, rfl, ?_⟩))
   go_ret
   exact ⟨sqE, sqB⟩
  ·rw [if_neg c5] at H
   have c5b0 : decide (0 < (l0_1.length : Int)) = false := decide_eq_false c5
   have c5b1 : decide (0 < l0_1.length) = false := decide_eq_false (by omega)
   clear c5
   obtain rfl := Option.some.inj H
   go_enter Try.func34, Try.ntmps34
   go_wp2_with (first | ((with_reducible refine zq (N := 1) rfl ?_); (try (refine jo (by rfl) ?_; dsimp only)); refine zo ?hg (N := 1) ?hd (cs := #[.int .i64 a0_0, .slice A0_1 l0_1.length c0_1]) (t := 27) ?hr ?_; (case hd => rfl); (case hg => rfl); (case hr => exact sqG); intro gb183 hg w13 hbox hb; have n0_ := Aside0.mk (ze sqB hb); have n1_ := Aside0.mk (hbox); have n2_ := Aside0.mk ((sqS hg : w.heap.size ≤ gb183)); have n3_ := Aside0.mk ((sqS hg : w.heap.size ≤ gb183)); clear HB; have HB := n0_; have BK183 := n1_; have GW183 := n2_; have GE183 := n3_; clear n0_ n1_ n2_ n3_; clear hb hbox hg; have hcz14_0 : w13.cell? ⟨gb183, 0, none⟩ = some (.int .i64 a0_0) := (zb BK183.out 0).trans rfl; have hcz14_1 : w13.cell? ⟨gb183, 1, none⟩ = some (.slice A0_1 l0_1.length c0_1) := (zb BK183.out 1).trans rfl; have hfz14_0 := za BK183.out 0; have hfz14_1 := za BK183.out 1) | ((with_reducible refine zf (f := 48) rfl ?_); refine zu (some 7) rfl rfl Try.func48 (by kernel_rfl) rfl #[.agg #[.int .i64 a0_0, .slice A0_1 l0_1.length c0_1]] rfl sqM ?_; (with_reducible refine (zj.calls k a0_0 _ _ l0_1 t184 t185 t186 t187 _ ?side1 ?side2 A2.out).mono ?_); (case side1 => exact sqC (Kd.zI HR0_1.out HB.out)); (case side2 => exact HC0_1.out); rintro e w15 ⟨rfl, hb⟩; refine ⟨_, rfl, ?_⟩; have n0_ := Aside0.mk (zd (g := gb183) (o := .cells #[.int .i64 a0_0, .slice A0_1 l0_1.length c0_1] 27 (0, 0)) (sqK BK183.out) hb); have n1_ := Aside0.mk (ze sqB hb); clear BK183; clear HB; have BK183 := n0_; have HB := n1_; clear n0_ n1_; (try clear hb); (try clear hb2); (try clear hk); (try clear hi)) | ((with_reducible refine zq (N := 3) rfl ?_); (try (refine jo (by rfl) ?_; dsimp only)); refine zo ?hg (N := 3) ?hd (cs := #[.int .i64 0, .int .i64 0, .int .i64 0]) (t := 58) ?hr ?_; (case hd => rfl); (case hg => rfl); (case hr => exact sqG); intro gb188 hg w16 hbox hb; have n0_ := Aside0.mk (zd (g := gb183) (o := .cells #[.int .i64 a0_0, .slice A0_1 l0_1.length c0_1] 27 (0, 0)) (sqK BK183.out) hb); have n1_ := Aside0.mk (ze sqB hb); have n2_ := Aside0.mk (hbox); have n3_ := Aside0.mk ((sqS hg : w.heap.size ≤ gb188)); have n4_ := Aside0.mk ((sqS hg : w.heap.size ≤ gb188)); have n5_ := Aside0.mk ((by rw [hg]; exact Nat.ne_of_lt (zz (g := gb183) (o := .cells #[.int .i64 a0_0, .slice A0_1 l0_1.length c0_1] 27 (0, 0)) (sqK BK183.out)) : gb183 ≠ gb188)); have n6_ := Aside0.mk ((by rw [hg]; exact Nat.ne_of_gt (zz (g := gb183) (o := .cells #[.int .i64 a0_0, .slice A0_1 l0_1.length c0_1] 27 (0, 0)) (sqK BK183.out)) : gb188 ≠ gb183)); clear BK183; clear HB; have BK183 := n0_; have HB := n1_; have BK188 := n2_; have GW188 := n3_; have GE188 := n4_; have NB183_188 := n5_; have NB188_183 := n6_; clear n0_ n1_ n2_ n3_ n4_ n5_ n6_; clear hb hbox hg; have hnb17 := NB188_183.out; have hnc17 := NB183_188.out; have hcz18_0 : w16.cell? ⟨gb188, 0, none⟩ = some (.int .i64 0) := (zb BK188.out 0).trans rfl; have hcz18_1 : w16.cell? ⟨gb188, 1, none⟩ = some (.int .i64 0) := (zb BK188.out 1).trans rfl; have hcz18_2 : w16.cell? ⟨gb188, 2, none⟩ = some (.int .i64 0) := (zb BK188.out 2).trans rfl; have hfz18_0 := za BK188.out 0; have hfz18_1 := za BK188.out 1; have hfz18_2 := za BK188.out 2; have hcz19_0 : w16.cell? ⟨gb183, 0, none⟩ = some (.int .i64 a0_0) := (zb BK183.out 0).trans rfl; have hcz19_1 : w16.cell? ⟨gb183, 1, none⟩ = some (.slice A0_1 l0_1.length c0_1) := (zb BK183.out 1).trans rfl; have hfz19_0 := za BK183.out 0; have hfz19_1 := za BK183.out 1) | ((with_reducible refine zf (f := 49) rfl ?_); refine zu (some 14) rfl rfl Try.func49 (by kernel_rfl) rfl #[.int .i64 a0_0, .slice A0_1 l0_1.length c0_1] rfl sqM ?_; (with_reducible refine (zK.calls k a0_0 _ _ l0_1 true _ ?side1 ?side2 A3.out).mono ?_); (case side1 => exact Kd.zI HR0_1.out sqB); (case side2 => exact HC0_1.out); rintro e w' ⟨rfl, ⟨nd, rfl⟩⟩; refine ⟨_, rfl, ?_⟩))
   go_ret
   exact ⟨sqE, sqB⟩
 ·replace c4 := Bool.eq_false_iff.mpr c4
  subst c4
  have H1 : (some false) = some r := by rw [if_neg (show ¬ (false = true) by decide)] at H; exact H
  clear H
  have H := H1
  clear H1
  obtain rfl := Option.some.inj H
  go_enter Try.func34, Try.ntmps34
  go_wp2_with (first | ((with_reducible refine zq (N := 1) rfl ?_); (try (refine jo (by rfl) ?_; dsimp only)); refine zo ?hg (N := 1) ?hd (cs := #[.int .i64 a0_0, .slice A0_1 l0_1.length c0_1]) (t := 27) ?hr ?_; (case hd => rfl); (case hg => rfl); (case hr => exact sqG); intro gb183 hg w20 hbox hb; have n0_ := Aside0.mk (ze sqB hb); have n1_ := Aside0.mk (hbox); have n2_ := Aside0.mk ((sqS hg : w.heap.size ≤ gb183)); have n3_ := Aside0.mk ((sqS hg : w.heap.size ≤ gb183)); clear HB; have HB := n0_; have BK183 := n1_; have GW183 := n2_; have GE183 := n3_; clear n0_ n1_ n2_ n3_; clear hb hbox hg; have hcz21_0 : w20.cell? ⟨gb183, 0, none⟩ = some (.int .i64 a0_0) := (zb BK183.out 0).trans rfl; have hcz21_1 : w20.cell? ⟨gb183, 1, none⟩ = some (.slice A0_1 l0_1.length c0_1) := (zb BK183.out 1).trans rfl; have hfz21_0 := za BK183.out 0; have hfz21_1 := za BK183.out 1) | ((with_reducible refine zf (f := 48) rfl ?_); refine zu (some 7) rfl rfl Try.func48 (by kernel_rfl) rfl #[.agg #[.int .i64 a0_0, .slice A0_1 l0_1.length c0_1]] rfl sqM ?_; (with_reducible refine (zj.calls k a0_0 _ _ l0_1 t184 t185 t186 t187 _ ?side1 ?side2 A2.out).mono ?_); (case side1 => exact sqC (Kd.zI HR0_1.out HB.out)); (case side2 => exact HC0_1.out); rintro e w22 ⟨rfl, hb⟩; refine ⟨_, rfl, ?_⟩; have n0_ := Aside0.mk (zd (g := gb183) (o := .cells #[.int .i64 a0_0, .slice A0_1 l0_1.length c0_1] 27 (0, 0)) (sqK BK183.out) hb); have n1_ := Aside0.mk (ze sqB hb); clear BK183; clear HB; have BK183 := n0_; have HB := n1_; clear n0_ n1_; (try clear hb); (try clear hb2); (try clear hk); (try clear hi)) | ((with_reducible refine zq (N := 3) rfl ?_); (try (refine jo (by rfl) ?_; dsimp only)); refine zo ?hg (N := 3) ?hd (cs := #[.int .i64 0, .int .i64 0, .int .i64 0]) (t := 58) ?hr ?_; (case hd => rfl); (case hg => rfl); (case hr => exact sqG); intro gb188 hg w23 hbox hb; have n0_ := Aside0.mk (zd (g := gb183) (o := .cells #[.int .i64 a0_0, .slice A0_1 l0_1.length c0_1] 27 (0, 0)) (sqK BK183.out) hb); have n1_ := Aside0.mk (ze sqB hb); have n2_ := Aside0.mk (hbox); have n3_ := Aside0.mk ((sqS hg : w.heap.size ≤ gb188)); have n4_ := Aside0.mk ((sqS hg : w.heap.size ≤ gb188)); have n5_ := Aside0.mk ((by rw [hg]; exact Nat.ne_of_lt (zz (g := gb183) (o := .cells #[.int .i64 a0_0, .slice A0_1 l0_1.length c0_1] 27 (0, 0)) (sqK BK183.out)) : gb183 ≠ gb188)); have n6_ := Aside0.mk ((by rw [hg]; exact Nat.ne_of_gt (zz (g := gb183) (o := .cells #[.int .i64 a0_0, .slice A0_1 l0_1.length c0_1] 27 (0, 0)) (sqK BK183.out)) : gb188 ≠ gb183)); clear BK183; clear HB; have BK183 := n0_; have HB := n1_; have BK188 := n2_; have GW188 := n3_; have GE188 := n4_; have NB183_188 := n5_; have NB188_183 := n6_; clear n0_ n1_ n2_ n3_ n4_ n5_ n6_; clear hb hbox hg; have hnb24 := NB188_183.out; have hnc24 := NB183_188.out; have hcz25_0 : w23.cell? ⟨gb188, 0, none⟩ = some (.int .i64 0) := (zb BK188.out 0).trans rfl; have hcz25_1 : w23.cell? ⟨gb188, 1, none⟩ = some (.int .i64 0) := (zb BK188.out 1).trans rfl; have hcz25_2 : w23.cell? ⟨gb188, 2, none⟩ = some (.int .i64 0) := (zb BK188.out 2).trans rfl; have hfz25_0 := za BK188.out 0; have hfz25_1 := za BK188.out 1; have hfz25_2 := za BK188.out 2; have hcz26_0 : w23.cell? ⟨gb183, 0, none⟩ = some (.int .i64 a0_0) := (zb BK183.out 0).trans rfl; have hcz26_1 : w23.cell? ⟨gb183, 1, none⟩ = some (.slice A0_1 l0_1.length c0_1) := (zb BK183.out 1).trans rfl; have hfz26_0 := za BK183.out 0; have hfz26_1 := za BK183.out 1) | ((with_reducible refine zf (f := 49) rfl ?_); refine zu (some 14) rfl rfl Try.func49 (by kernel_rfl) rfl #[.int .i64 a0_0, .slice A0_1 l0_1.length c0_1] rfl sqM ?_; (with_reducible refine (zK.calls k a0_0 _ _ l0_1 false _ ?side1 ?side2 A3.out).mono ?_); (case side1 => exact Kd.zI HR0_1.out sqB); (case side2 => exact HC0_1.out); rintro e w' ⟨rfl, ⟨nd, rfl⟩⟩; refine ⟨_, rfl, ?_⟩))
  go_ret
  exact ⟨sqE, sqB⟩

end Go.Proofs.Ytjlbfbpjcmjdfaa.F
end
section
namespace Go.Proofs
open Go.Shelf
def Try.Vk : Go.Shelf.Ren := ⟨fun | 189 => 55 | 125 => 62 | 257 => 61 | 128 => 73 | 129 => 74 | 294 => 64 | 295 => 65 | 296 => 66 | 297 => 67 | 298 => 68 | 299 => 69 | 216 => 70 | 300 => 71 | 301 => 72 | 328 => 76 | 329 => 77 | 330 => 78 | 331 => 79 | 332 => 80 | 215 => 81 | 343 => 82 | n => n, fun | 28 => 22 | 3 => 3 | 46 => 54 | 0 => 0 | 51 => 66 | 53 => 68 | 4 => 4 | 183 => 75 | 182 => 74 | 131 => 79 | 5 => 5 | 9 => 9 | 218 => 81 | 222 => 85 | 228 => 87 | 229 => 88 | n => n, fun | n => n⟩
theorem Try.YI : Go.Proofs.Lays.n189 Try.prog Try.Vk := {
  mixed := by kernel_rfl
  f125 := Try.func62.trans (congrArg some (by kernel_rfl))
  f128 := Try.func73.trans (congrArg some (by kernel_rfl))
  f129 := Try.func74.trans (congrArg some (by kernel_rfl))
  f189 := Try.func55.trans (congrArg some (by kernel_rfl))
  f215 := Try.func81.trans (congrArg some (by kernel_rfl))
  f216 := Try.func70.trans (congrArg some (by kernel_rfl))
  f257 := Try.func61.trans (congrArg some (by kernel_rfl))
  f294 := Try.func64.trans (congrArg some (by kernel_rfl))
  f295 := Try.func65.trans (congrArg some (by kernel_rfl))
  f296 := Try.func66.trans (congrArg some (by kernel_rfl))
  f297 := Try.func67.trans (congrArg some (by kernel_rfl))
  f298 := Try.func68.trans (congrArg some (by kernel_rfl))
  f299 := Try.func69.trans (congrArg some (by kernel_rfl))
  f300 := Try.func71.trans (congrArg some (by kernel_rfl))
  f301 := Try.func72.trans (congrArg some (by kernel_rfl))
  f328 := Try.func76.trans (congrArg some (by kernel_rfl))
  f329 := Try.func77.trans (congrArg some (by kernel_rfl))
  f330 := Try.func78.trans (congrArg some (by kernel_rfl))
  f331 := Try.func79.trans (congrArg some (by kernel_rfl))
  f332 := Try.func80.trans (congrArg some (by kernel_rfl))
  f343 := Try.func82.trans (congrArg some (by kernel_rfl))
  t0 := Try.underlying0
  a0 := Try.isAgg0
  z0 := Try.sizeOf0
  v0 := Try.zeroValue0
  t3 := Try.underlying3
  a3 := Try.isAgg3
  z3 := Try.sizeOf3
  v3 := Try.zeroValue3
  t4 := Try.underlying4
  a4 := Try.isAgg4
  z4 := Try.sizeOf4
  v4 := Try.zeroValue4
  t5 := Try.underlying5
  a5 := Try.isAgg5
  z5 := Try.sizeOf5
  v5 := Try.zeroValue5
  t9 := Try.underlying9
  a9 := Try.isAgg9
  z9 := Try.sizeOf9
  v9 := Try.zeroValue9
  t28 := Try.underlying22
  a28 := Try.isAgg22
  z28 := Try.sizeOf22
  v28 := Try.zeroValue22
  t46 := Try.underlying54
  a46 := Try.isAgg54
  z46 := Try.sizeOf54
  v46 := Try.zeroValue54
  t51 := Try.underlying66
  a51 := Try.isAgg66
  z51 := Try.sizeOf66
  v51 := Try.zeroValue66
  t53 := Try.underlying68
  a53 := Try.isAgg68
  z53 := Try.sizeOf68
  v53 := Try.zeroValue68
  t131 := Try.underlying79
  a131 := Try.isAgg79
  z131 := Try.sizeOf79
  v131 := Try.zeroValue79
  t182 := Try.underlying74
  a182 := Try.isAgg74
  z182 := Try.sizeOf74
  v182 := Try.zeroValue74
  t183 := Try.underlying75
  a183 := Try.isAgg75
  z183 := Try.sizeOf75
  v183 := Try.zeroValue75
  t218 := Try.underlying81
  a218 := Try.isAgg81
  z218 := Try.sizeOf81
  v218 := Try.zeroValue81
  t222 := Try.underlying85
  a222 := Try.isAgg85
  z222 := Try.sizeOf85
  v222 := Try.zeroValue85
  t228 := Try.underlying87
  a228 := Try.isAgg87
  z228 := Try.sizeOf87
  v228 := Try.zeroValue87
  t229 := Try.underlying88
  a229 := Try.isAgg88
  z229 := Try.sizeOf88
  v229 := Try.zeroValue88 }
open Go.Sort Go.RowKit in
theorem Try.slices_Sort_int (blk off cap : Nat) (zs : List Int) (w : World) (hH : Holds (Value.int .i64) w blk off zs.toArray) (hblk : blk < w.heap.size) (hsz : zs.length < 4611686018427387904) :
    Calls Try.prog 55 #[.slice (some ⟨blk, off, none⟩) zs.length cap] w fun e w' =>
      e = .returned (.tuple #[]) ∧ ∃ n os, w' = grow (putRow (Value.int .i64) (Sort.ahead w n) blk off (zs.mergeSort fun x y => decide (x ≤ y)).toArray) os := Any.slices_Sort_int Try.YI blk off cap zs w hH hblk hsz
def Try.Jo : Go.Shelf.Ren := ⟨fun | 20 => 56 | n => n, fun | 22 => 22 | 3 => 3 | 4 => 4 | 0 => 0 | n => n, fun | n => n⟩
theorem Try.JA : Go.Proofs.Lays2.n20 Try.prog Try.Jo := {
  mixed := by kernel_rfl
  f20 := Try.func56.trans (congrArg some (by kernel_rfl))
  t0 := Try.underlying0
  a0 := Try.isAgg0
  z0 := Try.sizeOf0
  v0 := Try.zeroValue0
  t3 := Try.underlying3
  a3 := Try.isAgg3
  z3 := Try.sizeOf3
  v3 := Try.zeroValue3
  t4 := Try.underlying4
  a4 := Try.isAgg4
  z4 := Try.sizeOf4
  v4 := Try.zeroValue4
  t22 := Try.underlying22
  a22 := Try.isAgg22
  z22 := Try.sizeOf22
  v22 := Try.zeroValue22
  i3 := by kernel_rfl }
open Go.RowKit Go.Lib Go.Sort in
theorem Try.slices_Compact_int (blk off cap : Nat) (zs : List Int) (w : World) (hH : Holds (Value.int .i64) w blk off zs.toArray) (hsz : zs.length ≤ 9223372036854775807) (hcap : zs.length ≤ cap) :
    Calls Try.prog 56 #[.slice (some ⟨blk, off, none⟩) zs.length cap] w fun e w' => e = .returned (.slice (some ⟨blk, off, none⟩) (Lib.compact zs).length cap) ∧ ∃ q, w' = putRow (Value.int .i64) (Sort.ahead w q) blk off (Lib.compact zs ++ List.replicate (zs.length - (Lib.compact zs).length) 0).toArray := Any.slices_Compact_int Try.JA blk off cap zs w hH hsz hcap
open Go.RowKit Go.Lib Go.Sort in
theorem Try.slices_Compact_int_empty (a : Option Addr) (cap : Nat) (w : World) :
    Calls Try.prog 56 #[.slice a 0 cap] w fun e w' => e = .returned (.slice a 0 cap) ∧ w' = w := Any.slices_Compact_int_empty Try.JA a cap w
open Go.RowKit Go.Sort in
theorem Try.slices_Sort_int_none (p : Option Addr) (cap : Nat) (w : World) :
    Calls Try.prog 55 #[.slice p 0 cap] w fun e w' => e = .returned (.tuple #[]) ∧ w' = w := Any.slices_Sort_int_none Try.YI p cap w
end Go.Proofs
end
section
namespace Go.Proofs.Ytjlbfbpjcmjdfaa.Mt
def sdiff (a b : Nat) : Nat := a ^^^ (a &&& b)
theorem qt (a b i : Nat) : (sdiff a b).testBit i = (a.testBit i && !b.testBit i) := by
  simp [sdiff, Nat.testBit_xor, Nat.testBit_and]; cases a.testBit i <;> cases b.testBit i <;> rfl
def elems (s : Nat) : List Nat := (List.range 8).filter s.testBit
theorem jN {s e : Nat} : e ∈ elems s ↔ e < 8 ∧ s.testBit e = true := by simp [elems]
end Go.Proofs.Ytjlbfbpjcmjdfaa.Mt
end
section
namespace Go.Proofs.Ytjlbfbpjcmjdfaa.Mt
/-- Sorted, each once. -/
def y1 (l : List Int) : List Int := Go.Lib.compact (l.mergeSort fun x y => decide (x ≤ y))
theorem Jn (d : Array Int) (n : Nat) (hd : ∀ i j : Nat, i ≤ j → j < n → d[i]! ≤ d[j]!) : ∀ m, m ≤ n → (Go.Lib.compactUpTo d m).Pairwise (· < ·) ∧ ∀ x, x ∈ Go.Lib.compactUpTo d m ↔ ∃ j, j < m ∧ d[j]! = x
  | 0, _ => ⟨by simp [Go.Lib.compactUpTo], fun x => by simp [Go.Lib.compactUpTo]⟩
  | m + 1, hm => by
    obtain ⟨h1, h2⟩ := Jn d n hd m (by omega)
    rw [Go.Lib.compactUpTo_succ]
    by_cases k : Go.Lib.keeps d m = true
    · simp only [k, if_true]
      refine ⟨List.pairwise_append.2 ⟨h1, by simp, fun a ha b hb => ?_⟩, fun x => ?_⟩
      · obtain ⟨j, hj, rfl⟩ := (h2 a).1 ha
        simp only [List.mem_singleton] at hb
        subst hb
        have h3 := hd j (m - 1) (by omega) (by omega)
        have h4 := hd (m - 1) m (by omega) (by omega)
        have h5 : d[m]! ≠ d[m - 1]! := by
          simp only [Go.Lib.keeps, decide_eq_true_eq] at k
          rcases k with k | k
          · omega
          · exact k
        omega
      · rw [List.mem_append, h2, List.mem_singleton]
        constructor
        · rintro (⟨j, hj, e⟩ | e)
          · exact ⟨j, by omega, e⟩
          · exact ⟨m, by omega, e.symm⟩
        · rintro ⟨j, hj, e⟩
          by_cases c : j = m
          · subst c; exact .inr e.symm
          · exact .inl ⟨j, by omega, e⟩
    · simp only [k, if_false, List.append_nil, Bool.false_eq_true]
      refine ⟨h1, fun x => ?_⟩
      rw [h2]
      simp only [Go.Lib.keeps, decide_eq_true_eq] at k
      constructor
      · rintro ⟨j, hj, e⟩; exact ⟨j, by omega, e⟩
      · rintro ⟨j, hj, e⟩
        by_cases c : j = m
        · subst c
          by_cases c0 : j = 0
          · exact absurd (.inl c0) k
          · exact ⟨j - 1, by omega, by
              by_cases c1 : d[j]! = d[j - 1]!
              · rw [← c1]; exact e
              · exact absurd (.inr c1) k⟩
        · exact ⟨j, by omega, e⟩
theorem QG (l : List Int) (j : Nat) (h : j < l.length) : l.toArray[j]! = l[j] := by
  rw [getElem!_pos l.toArray j (by simpa using h)]; simp
theorem Zl (l : List Int) (h : l.Pairwise (· ≤ ·)) : (Go.Lib.compact l).Pairwise (· < ·) ∧ ∀ x, x ∈ Go.Lib.compact l ↔ x ∈ l := by
  have hd : ∀ i j : Nat, i ≤ j → j < l.length → l.toArray[i]! ≤ l.toArray[j]! := fun i j hij hj => by
    rw [QG l i (by omega), QG l j hj]
    by_cases e : i = j
    · subst e; exact Int.le_refl _
    · exact List.pairwise_iff_getElem.1 h i j (by omega) hj (by omega)
  obtain ⟨h1, h2⟩ := Jn l.toArray l.length hd l.length (Nat.le_refl _)
  refine ⟨h1, fun x => ?_⟩
  unfold Go.Lib.compact
  rw [h2]
  constructor
  · rintro ⟨j, hj, rfl⟩; rw [QG l j hj]; exact List.getElem_mem hj
  · intro hx
    obtain ⟨j, hj, e⟩ := List.getElem_of_mem hx
    exact ⟨j, hj, by rw [QG l j hj]; exact e⟩
theorem Yr (l : List Int) : (l.mergeSort fun x y => decide (x ≤ y)).Pairwise (· ≤ ·) := by
  have := List.pairwise_mergeSort (le := fun x y : Int => decide (x ≤ y)) (fun a b c h1 h2 => by simp only [decide_eq_true_eq] at *; omega) (fun a b => by simp only [Bool.or_eq_true, decide_eq_true_eq]; omega) l
  exact this.imp fun h => by simpa using h
theorem vQ (l : List Int) : (y1 l).Pairwise (· < ·) := (Zl _ (Yr l)).1
theorem Zd {l : List Int} {x : Int} : x ∈ y1 l ↔ x ∈ l := by
  unfold y1
  rw [(Zl _ (Yr l)).2, List.mem_mergeSort]
theorem Qf (l : List Int) : (y1 l).length ≤ l.length := by
  have := Go.Lib.compact_length_le (l.mergeSort fun x y => decide (x ≤ y))
  rwa [List.length_mergeSort] at this
theorem Qv : ∀ {l l' : List Int}, l.Pairwise (· < ·) → l'.Pairwise (· < ·) → (∀ x, x ∈ l ↔ x ∈ l') → l = l'
  | [], [], _, _, _ => rfl
  | [], b :: _, _, _, hm => absurd ((hm b).2 (List.mem_cons_self ..)) (by simp)
  | a :: _, [], _, _, hm => absurd ((hm a).1 (List.mem_cons_self ..)) (by simp)
  | a :: l, b :: l', h, h', hm => by
    rw [List.pairwise_cons] at h h'
    have hab : a = b := by
      rcases List.mem_cons.1 ((hm a).1 (List.mem_cons_self ..)) with e | e
      · exact e
      · rcases List.mem_cons.1 ((hm b).2 (List.mem_cons_self ..)) with e' | e'
        · exact e'.symm
        · have := h'.1 a e; have := h.1 b e'; omega
    subst hab
    rw [Qv h.2 h'.2 fun x => ⟨fun hx => by
      rcases List.mem_cons.1 ((hm x).1 (List.mem_cons_of_mem _ hx)) with e | e
      · subst e; have := h.1 x hx; omega
      · exact e, fun hx => by
      rcases List.mem_cons.1 ((hm x).2 (List.mem_cons_of_mem _ hx)) with e | e
      · subst e; have := h'.1 x hx; omega
      · exact e⟩]
theorem ZG {l l' : List Int} (h : l'.Pairwise (· < ·)) (hm : ∀ x, x ∈ l' ↔ x ∈ l) : y1 l = l' :=
  Qv (vQ l) h fun x => by rw [Zd, hm]
end Go.Proofs.Ytjlbfbpjcmjdfaa.Mt
end
section
namespace Go.Proofs.Ytjlbfbpjcmjdfaa.F
open Go.RowKit Go.Proofs.YtjlbfbpjcmjdfaaW.PrintWords Go.Proofs.YtjlbfbpjcmjdfaaW.PrintLast Go.Proofs.YtjlbfbpjcmjdfaaW.PrintMore Go.Sort
set_option linter.unusedSimpArgs false
set_option linter.unusedVariables false
theorem V7 (v : Value) (l : List Int) (base : Nat) (w0 w : World) (hb : Below base w0 w) (hs : base ≤ w.heap.size) (ho : Kd.R (Kd.int .i64) 3 w base (fun _ => True) v l) (hl : l.length < 4611686018427387904) :
    Calls Try.prog 55 #[v] w fun e w' => e = .returned (.tuple #[]) ∧ Kd.R (Kd.int .i64) 3 w' base (fun _ => True) v (l.mergeSort fun x y => decide (x ≤ y)) ∧ Below base w0 w' ∧ base ≤ w'.heap.size := by
  have hown := Kd.Z0 ho
  rcases hown.2 with ⟨rfl, hz⟩ | ⟨g, cap, cur, rfl, hbase, hblk, h1, h2, h3, h4⟩
  · have hl0 : l = [] := List.eq_nil_of_length_eq_zero hz
    subst hl0
    refine (Try.slices_Sort_int_none none 0 w).mono ?_
    rintro e w' ⟨rfl, rfl⟩
    exact ⟨rfl, by simpa using ho, hb, hs⟩
  · have hH := holds_of_blockI hblk (by simpa [yh] using h4)
    refine (Try.slices_Sort_int g 0 cap l w hH (Array.getElem?_eq_some_iff.1 hblk).1 hl).mono ?_
    rintro e w' ⟨rfl, nn, os, rfl⟩
    have hlen : (l.mergeSort fun x y => decide (x ≤ y)).length = l.length := List.length_mergeSort l
    have hr := ownsRow_sortedI (n := nn) (os := os) (ts := l.mergeSort fun x y => decide (x ≤ y)) hlen hbase hblk h1 h2 h3
    have hB := hb.grown (grownBy_sortedI (l.mergeSort fun x y => decide (x ≤ y)).toArray (w := w) (g := g) (n := nn) (os := os)) hs (fun j hj => by cases hj; exact hbase)
    refine ⟨rfl, Kd.Jj (by rw [hlen]; exact hr) (fun _ _ => trivial), hB, Nat.le_trans hs (grownBy_sortedI _).size⟩
theorem Jp (v : Value) (l : List Int) (base : Nat) (w0 w : World) (hb : Below base w0 w) (hs : base ≤ w.heap.size) (ho : Kd.R (Kd.int .i64) 3 w base (fun _ => True) v l) (hl : l.length ≤ 9223372036854775807) :
    Calls Try.prog 56 #[v] w fun e w' => ∃ v', e = .returned v' ∧ Kd.R (Kd.int .i64) 3 w' base (fun _ => True) v' (Lib.compact l) ∧ Below base w0 w' := by
  have hown := Kd.Z0 ho
  rcases hown.2 with ⟨rfl, hz⟩ | ⟨g, cap, cur, rfl, hbase, hblk, h1, h2, h3, h4⟩
  · have hl0 : l = [] := List.eq_nil_of_length_eq_zero hz
    subst hl0
    refine (Try.slices_Compact_int_empty none 0 w).mono ?_
    rintro e w' ⟨rfl, rfl⟩
    exact ⟨_, rfl, by simpa [Lib.compact, Lib.compactUpTo] using ho, hb⟩
  · have hH := holds_of_blockI hblk (by simpa [yh] using h4)
    refine (Try.slices_Compact_int g 0 cap l w hH hl h1).mono ?_
    rintro e w' ⟨rfl, q, rfl⟩
    have hle := Lib.compact_length_le l
    have hc := Lib.ownsRow_putRow (q := q) (k := (Lib.compact l).length) (zs := l) (ys := Lib.compact l ++ List.replicate (l.length - (Lib.compact l).length) 0) hown (by simp; omega) hle
    rw [List.take_left] at hc
    exact ⟨_, rfl, Kd.Jj hc (fun _ _ => trivial), Lib.below_putRow hb hbase⟩
def je.f (_ : Nat) (l : List Int) : Option (List Int) := if l.length ≤ 17592186044416 then some (Mt.y1 l) else none
theorem je.calls (k : Nat) (A0 : Option Addr) (c0 : Nat) (l0 : List Int) (r : List Int) (w : World) (hr0 : Kd.C (Kd.int .i64) w A0 l0.length l0) (hc0 : l0.length ≤ c0) (h : je.f k l0 = some r) :
    Calls Try.prog 44 #[.slice A0 l0.length c0] w fun e w' => ∃ v0_ : Value, e = .returned (v0_) ∧ Kd.R (Kd.int .i64) 3 w' w.heap.size (fun _ => True) v0_ r ∧ Below w.heap.size w w' := by
  unfold je.f at h
  by_cases hl : l0.length ≤ 17592186044416
  · rw [if_pos hl] at h
    obtain rfl := Option.some.inj h
    have HB := Aside0.mk (Below.refl w.heap.size w)
    have HR := Aside0.mk hr0
    have HC := Aside0.mk hc0
    have HL := Aside0.mk hl
    obtain ⟨yL, hyL⟩ : ∃ y_ : List Int, y_ = (([] : List Int)) := ⟨_, rfl⟩
    have NyL := Aside0.mk hyL
    clear h hr0 hc0 hl hyL
    unfold Mt.y1
    obtain ⟨yS, hyS⟩ : ∃ y_ : List Int, y_ = (l0.mergeSort fun x y => decide (x ≤ y)) := ⟨_, rfl⟩
    rw [← hyS]
    have NyS := Aside0.mk hyS
    clear hyS
    go_enter Try.func44, Try.ntmps44
    go_wp2_with (first
      | ((with_reducible refine zq (N := 4) rfl ?_); refine Kd.yZ (Kd.int .i64) _ 3 ?hg (N := 4) ?hd (xs := ([] : List Int)) (inner := []) (ok := fun _ => True) (okp := fun _ => True) ?hr ?hp (fun _ hk => hk) trivial (Below.refl _ _) (Nat.le_refl _) (by simp) ?_; (case hd => rfl); (case hg => rfl); (case hr => exact sqG); (case hp => exact (qx.none _ _)); intro vL wL hoL hb hg_ hnew_; clear hg_ hnew_; (first | rw [← NyL.out] at hoL | (simp only [Int.reduceToNat] at hoL; rw [← NyL.out] at hoL)); have n0_ := Aside0.mk (Kd.qq hoL (zB sqB)); have n1_ := Aside0.mk (ze sqB hb); clear HB; have HOL := n0_; have HB := n1_; clear n0_ n1_; clear hb hoL)
      | ((with_reducible refine qT (b := .append) (xs := #[.tmp 4, .tmp 5]) rfl ?_); at_builtin; refine Kd.vC (Kd.int .i64) (w0 := w) w.heap.size rfl (.tmp 4) (.tmp 5) 22 3 (.int .i64 0) 8 rfl Try.underlying22 yT rfl (by decide) (by omega) vL yL l0 _ _ _ (fun _ => True) (fun _ => False) rfl rfl ?aO ?aR (fun _ _ h => h) (fun _ h => h.elim) ?aF ?aB ?aS ?aL ?_; (case aR => exact sqC (Kd.zI HR.out HB.out)); (case aB => exact sqB); (case aF => exact (fun _ _ => trivial)); (case aO => exact (sqR HOL.out)); (case aS => exact (zB sqB)); (case aL => have := HL.out; have := NyL.out; simp [this]; omega); intro vA wA ho hb hg hat; have n2_ := Aside0.mk (hb); have n3_ := Aside0.mk (show Kd.R (Kd.int .i64) 3 wA w.heap.size (fun _ => True) vA l0 from by have := NyL.out; rw [this, List.nil_append] at ho; exact ho); clear HB HOL; have HB := n2_; have HOL := n3_; clear n2_ n3_; clear ho hb hg hat)
      | (go_at_call 55; (with_reducible refine (V7 _ l0 w.heap.size w _ sqB (zB sqB) (sqR HOL.out) (by have := HL.out; omega)).mono ?_); rintro e w2 ⟨rfl, ho, hb, hs⟩; (rw [← NyS.out] at ho); clear HB HOL; have HB := Aside0.mk hb; have HOL := Aside0.mk ho; clear ho hb hs)
      | (go_at_call 56; (with_reducible refine (Jp _ yS w.heap.size w _ sqB (zB sqB) (sqR HOL.out) (by have := HL.out; have := NyS.out; rw [this, List.length_mergeSort]; omega)).mono ?_); rintro e w3 ⟨v3, rfl, ho, hb⟩; clear HB HOL; have HB := Aside0.mk hb; have HOL := Aside0.mk ho; clear ho hb))
    go_ret
    exact ⟨_, rfl, sqR HOL.out, sqB⟩
  · rw [if_neg hl] at h; exact absurd h (by simp)
end Go.Proofs.Ytjlbfbpjcmjdfaa.F
end
section
namespace Go.Proofs.Ytjlbfbpjcmjdfaa.F
open Go.RowKit Go.Proofs.YtjlbfbpjcmjdfaaW.PrintWords Go.Proofs.YtjlbfbpjcmjdfaaW.PrintLast Go.Proofs.YtjlbfbpjcmjdfaaW.PrintMore
set_option linter.unusedSimpArgs false
set_option linter.unusedVariables false
def zr.q (s t : Int) : Option Bool := if t = s then some false else jC.f s t
def zr.l0 : Nat → List Int → List Int → List Int → Int → Option (List Int)
  | 0, _, _, _, _ => none
  | k + 1, l, out, ss, x => if x < (ss.length : Int) then (if 0 ≤ x then ((Qk (zr.q (rd ss x)) l).bind fun b => if b = true then zr.l0 k l out ss (wrap64 (x + 1)) else (if out.length < 17592186044416 then zr.l0 k l (out ++ [rd ss x]) ss (wrap64 (x + 1)) else none)) else none) else some out
def zr.f (k : Nat) (l : List Int) : Option (List Int) := if l.length ≤ 17592186044416 then ((qd.f k l).bind fun t => if t = true then ((je.f k l).bind fun ss => zr.l0 k l [] ss 0) else some []) else none
theorem zr.pred (s : Int) (ga : Nat) (w : World) (ha : w.heap[ga]? = some (.cells #[.int .i64 s] 3 (0, 0))) : JI 46 #[.pointer (some ⟨ga, 0, none⟩)] (zr.q s) w := by
  intro W x r hq hb
  unfold zr.q at hq
  have hc0 : W.cell? ⟨ga, 0, none⟩ = some (.int .i64 s) := (zb (zd ha hb) 0).trans rfl
  by_cases e : x = s
  · rw [if_pos e] at hq
    obtain rfl := Option.some.inj hq
    have e0 : (x != s) = false := bne_eq_false_iff_eq.mpr e
    clear ha hb hq e
    go_enter Try.func46, Try.ntmps46
    go_wp2
    go_ret
    exact ⟨rfl, by repeat (first | exact Below.refl _ _ | apply qf | apply z7)⟩
  · rw [if_neg e] at hq
    have e0 : (x != s) = true := bne_iff_ne.mpr e
    have H := Aside0.mk hq
    clear ha hb hq e
    go_enter Try.func46, Try.ntmps46
    go_wp2_with (go_at_call 47; (try simp only [zk, zm]); (with_reducible refine (jC.calls s x r _ H.out).mono ?_); rintro e w' ⟨rfl, ⟨nd, rfl⟩⟩)
    go_ret
    exact ⟨rfl, by repeat (first | exact Below.refl _ _ | apply qf | apply z7)⟩
theorem zr.calls (k : Nat) (A0 : Option Addr) (c0 : Nat) (l0 : List Int) (r : List Int) (w : World) (hr0 : Kd.C (Kd.int .i64) w A0 l0.length l0) (hc0 : l0.length ≤ c0) (h : zr.f k l0 = some r) :
    Calls Try.prog 33 #[.slice A0 l0.length c0] w fun e w' => ∃ v0_ : Value, e = .returned (v0_) ∧ Kd.R (Kd.int .i64) 3 w' w.heap.size (fun _ => True) v0_ r ∧ Below w.heap.size w w' := by
  unfold zr.f at h
  by_cases hl : l0.length ≤ 17592186044416
  case neg => rw [if_neg hl] at h; exact absurd h (by simp)
  rw [if_pos hl] at h
  obtain ⟨t, ht, h⟩ := Option.bind_eq_some_iff.mp h
  have HR := Aside0.mk hr0
  have HC := Aside0.mk hc0
  have HS := Aside0.mk hl
  have HT := Aside0.mk ht
  have HB := Aside0.mk (Below.refl w.heap.size w)
  obtain ⟨yL, hyL⟩ : ∃ y_ : List Int, y_ = (([] : List Int)) := ⟨_, rfl⟩
  cases t with
  | false =>
    have hn : r = [] := by simpa using h.symm
    subst hn
    clear h hr0 hc0 hl ht
    have NyL := Aside0.mk hyL
    clear hyL
    go_enter Try.func33, Try.ntmps33
    go_wp2_with (first
      | ((with_reducible refine zq (N := 6) rfl ?_); refine Kd.yZ (Kd.int .i64) _ 3 ?hg (N := 6) ?hd (xs := ([] : List Int)) (inner := []) (ok := fun _ => True) (okp := fun _ => True) ?hr ?hp (fun _ hk => hk) trivial (Below.refl _ _) (Nat.le_refl _) (by simp) ?_; (case hd => rfl); (case hg => rfl); (case hr => exact sqG); (case hp => exact (qx.none _ _)); intro vL wL hoL hb hg_ hnew_; clear hg_ hnew_; clear hoL; have n1_ := Aside0.mk (ze sqB hb); clear HB; have HB := n1_; clear n1_; clear hb)
      | ((with_reducible refine zf (f := 43) rfl ?_); refine zu (some 8) rfl rfl Try.func43 (by kernel_rfl) rfl #[.slice A0 l0.length c0] rfl (by (try simp only [List.map_toArray, List.map_cons, List.map_nil]); first | done | rfl) ?_; (with_reducible refine (qd.calls k _ _ l0 false _ ?side1 HC.out HT.out).mono ?_); (case side1 => exact sqC (Kd.zI HR.out HB.out)); rintro e w' ⟨rfl, ⟨nd, rfl⟩⟩; refine ⟨_, rfl, ?_⟩))
    go_ret
    exact ⟨_, rfl, Kd.Vn _ _ _ _ _, sqB⟩
  | true =>
    have h : ((je.f k l0).bind fun ss => zr.l0 k l0 [] ss 0) = some r := by simpa using h
    obtain ⟨ss, hss, h⟩ := Option.bind_eq_some_iff.mp h
    rw [← hyL] at h
    have NyL := Aside0.mk hyL
    have HSS := Aside0.mk hss
    have H' := Aside0.mk h
    clear h hr0 hc0 hl ht hyL hss
    go_enter Try.func33, Try.ntmps33
    go_wp2_with (first
      | ((with_reducible refine zq (N := 6) rfl ?_); refine Kd.yZ (Kd.int .i64) _ 3 ?hg (N := 6) ?hd (xs := ([] : List Int)) (inner := []) (ok := fun _ => True) (okp := fun _ => True) ?hr ?hp (fun _ hk => hk) trivial (Below.refl _ _) (Nat.le_refl _) (by simp) ?_; (case hd => rfl); (case hg => rfl); (case hr => exact sqG); (case hp => exact (qx.none _ _)); intro vL wL hoL hb hg_ hnew_; clear hg_ hnew_; (first | rw [← NyL.out] at hoL | (simp only [Int.reduceToNat] at hoL; rw [← NyL.out] at hoL)); have n0_ := Aside0.mk (Kd.qq hoL (zB sqB)); have n1_ := Aside0.mk (ze sqB hb); clear HB; have HOL := n0_; have HB := n1_; clear n0_ n1_; clear hb hoL)
      | ((with_reducible refine zf (f := 43) rfl ?_); refine zu (some 8) rfl rfl Try.func43 (by kernel_rfl) rfl #[.slice A0 l0.length c0] rfl (by (try simp only [List.map_toArray, List.map_cons, List.map_nil]); first | done | rfl) ?_; (with_reducible refine (qd.calls k _ _ l0 true _ ?side1 HC.out HT.out).mono ?_); (case side1 => exact sqC (Kd.zI HR.out HB.out)); rintro e w' ⟨rfl, ⟨nd, rfl⟩⟩; refine ⟨_, rfl, ?_⟩)
      | ((with_reducible refine zf (f := 44) rfl ?_); refine zu (some 11) rfl rfl Try.func44 (by kernel_rfl) rfl #[.slice A0 l0.length c0] rfl (by (try simp only [List.map_toArray, List.map_cons, List.map_nil]); first | done | rfl) ?_; (with_reducible refine (je.calls k _ _ l0 ss _ ?side1 HC.out HSS.out).mono ?_); (case side1 => exact sqC (Kd.zI HR.out HB.out)); rintro e w8 ⟨vS, rfl, ho0, hb⟩; refine ⟨_, rfl, ?_⟩; have n0_ := Aside0.mk (Kd.qz (sqR HOL.out) (Kd.qS ho0) hb); have n1_ := Aside0.mk (Kd.qq (Kd.ja ho0 (Kd.vr (sqR HOL.out))) (zB sqB)); have n3_ := Aside0.mk (ze sqB hb); clear HOL; clear HB; have HOL := n0_; have HOS := n1_; have HB := n3_; clear n0_ n1_ n3_; clear hb ho0; obtain ⟨Ao, co, eo⟩ := Kd.z8 HOS.out; subst eo))
    go_loopg [3, 13] k (fun kq v3 v13 w' => ∃ (out : List Int) (x : Int), v13 = .int .i64 x ∧ Aside0 (zr.l0 kq l0 out ss x = some r) ∧ Aside0 (kq ≤ k) ∧ Aside0 (Kd.R (Kd.int .i64) 3 w' w.heap.size (fun k_ => some k_ ≠ ((.slice Ao ss.length co) : Value).ownBlock) v3 out) ∧ Aside0 (Kd.R (Kd.int .i64) 3 w' w.heap.size (fun k_ => some k_ ≠ (v3 : Value).ownBlock) (.slice Ao ss.length co) ss) ∧ Aside0 (Below w.heap.size w w'))
    case atStart => exact ⟨yL, 0, rfl, H', ⟨Nat.le_refl _⟩, ⟨by refine sqR ?_; exact Kd.zy HOL.out (fun _ hk => hk.2)⟩, ⟨by refine sqR ?_; exact Kd.zy HOS.out (fun _ hk => hk.2)⟩, ⟨sqB⟩⟩
    case round =>
      clear H' HOL HOS HB
      obtain ⟨out, x, rfl, HA, HK1, HO, HOS, HB⟩ := hrel
      cases gk with
      | zero => exact absurd HA.out (by simp [zr.l0])
      | succ k1 =>
        have H := HA.out
        clear HA
        simp only [zr.l0] at H
        by_cases c1 : x < (ss.length : Int)
        · rw [if_pos c1] at H
          by_cases c2 : 0 ≤ x
          · rw [if_pos c2] at H
            obtain ⟨b, hb, H⟩ := Option.bind_eq_some_iff.mp H
            have AB := Aside0.mk hb
            clear hb
            have c1b0 : decide (x < (ss.length : Int)) = true := decide_eq_true c1
            have c2b0 : decide (0 ≤ x) = true := decide_eq_true c2
            obtain ⟨ad1, e1, hx1⟩ := Kd.qm (Kd.zx HOS.out).2.2 x c2 c1
            cases e1
            replace c1 := eq_true c1
            replace c2 := eq_true c2
            obtain ⟨y, hy⟩ : ∃ y_ : Int, y_ = rd ss x := ⟨_, rfl⟩
            rw [← hy] at AB H hx1
            clear hy
            cases b with
            | true =>
              have H' := Aside0.mk (show zr.l0 k1 l0 out ss (wrap64 (x + 1)) = some r by simpa using H)
              clear H
              go_wp2_with (first
                | ((with_reducible refine zq (N := 5) rfl ?_); refine zo ?hg (N := 5) ?hd (cs := #[.int .i64 0]) (t := 3) ?hr ?_; (case hd => rfl); (case hg => rfl); (case hr => exact sqG); intro ga hg w7 hbox hb; have HG3 := Aside0.mk hg; have BKa := Aside0.mk hbox; have HBa := Aside0.mk hb; have hca : w7.cell? ⟨ga, 0, none⟩ = some (.int .i64 0) := (zb BKa.out 0).trans rfl; have hfa := za BKa.out 0; clear hg hbox hb hx1)
                | ((with_reducible refine jq (t := 3) (p := 5) rfl ?_); refine jb (t := 3) (p := 5) (v := ?vo_w8) (w1 := (w7.setCell ⟨ga, 0, none⟩ (.int .i64 y))) ?hg ?ho ?hn ?hr ?_; (case ho => rfl); (case hg => rfl); (case hn => rfl); (case hr => exact sqG); intro w8 hw; have hp_ := Z2 (v := .int .i64 y) HG3.out BKa.out HBa.out; rw [← hw] at hp_; have BK8 := Aside0.mk hp_.1; have HB8 := Aside0.mk hp_.2; clear hp_ hw BKa HBa HG3 hca hfa; have BKa := BK8; clear BK8))
              refine (jz (zr.q y) _ _ (enters_of Try.func46 (by kernel_rfl) rfl) _ _ l0 true _ (zr.pred y _ _ BKa.out) (Kd.zI HR.out (ze HB.out HB8.out)) HC.out HS.out AB.out).mono ?_
              rintro e w9 ⟨rfl, hb⟩
              have HB9 := Aside0.mk (ze HB8.out hb)
              have n0_ := Aside0.mk (Kd.zE HO.out HB9.out)
              have n1_ := Aside0.mk (Kd.zE HOS.out HB9.out)
              have n2_ := Aside0.mk (ze HB.out HB9.out)
              clear HO HOS HB hb HB8 HB9 BKa; have HO := n0_; have HOS := n1_; have HB := n2_; clear n0_ n1_ n2_
              go_wp2
              go_roundg k1
              case measure => have := HK1.out; omega
              case rel => exact ⟨out, wrap64 (x + 1), rfl, H', ⟨by have := HK1.out; omega⟩, ⟨sqR HO.out⟩, ⟨sqR HOS.out⟩, ⟨sqB⟩⟩
            | false =>
              have H1 : (if out.length < 17592186044416 then zr.l0 k1 l0 (out ++ [y]) ss (wrap64 (x + 1)) else none) = some r := by simpa using H
              clear H
              by_cases c3 : out.length < 17592186044416
              case neg => rw [if_neg c3] at H1; exact absurd H1 (by simp)
              rw [if_pos c3] at H1
              have HLen := Aside0.mk c3
              clear c3
              obtain ⟨yA, hyA⟩ : ∃ y_ : List Int, y_ = (out ++ [y]) := ⟨_, rfl⟩
              rw [← hyA] at H1
              have NyA := Aside0.mk hyA
              have H' := Aside0.mk H1
              clear H1 hyA
              go_wp2_with (first
                | ((with_reducible refine zq (N := 5) rfl ?_); refine zo ?hg (N := 5) ?hd (cs := #[.int .i64 0]) (t := 3) ?hr ?_; (case hd => rfl); (case hg => rfl); (case hr => exact sqG); intro ga hg w7 hbox hb; have HG3 := Aside0.mk hg; have BKa := Aside0.mk hbox; have HBa := Aside0.mk hb; have hca : w7.cell? ⟨ga, 0, none⟩ = some (.int .i64 0) := (zb BKa.out 0).trans rfl; have hfa := za BKa.out 0; clear hg hbox hb hx1)
                | ((with_reducible refine jq (t := 3) (p := 5) rfl ?_); refine jb (t := 3) (p := 5) (v := ?vo_w8) (w1 := (w7.setCell ⟨ga, 0, none⟩ (.int .i64 y))) ?hg ?ho ?hn ?hr ?_; (case ho => rfl); (case hg => rfl); (case hn => rfl); (case hr => exact sqG); intro w8 hw; have hp_ := Z2 (v := .int .i64 y) HG3.out BKa.out HBa.out; rw [← hw] at hp_; have BK8 := Aside0.mk hp_.1; have HB8 := Aside0.mk hp_.2; clear hp_ hw BKa HBa HG3 hca hfa; have BKa := BK8; clear BK8))
              refine (jz (zr.q y) _ _ (enters_of Try.func46 (by kernel_rfl) rfl) _ _ l0 false _ (zr.pred y _ _ BKa.out) (Kd.zI HR.out (ze HB.out HB8.out)) HC.out HS.out AB.out).mono ?_
              rintro e w9 ⟨rfl, hb⟩
              have hca : w9.cell? ⟨ga, 0, none⟩ = some (.int .i64 y) := (zb (zd BKa.out hb) 0).trans rfl
              have HB9 := Aside0.mk (ze HB8.out hb)
              have n0_ := Aside0.mk (Kd.zE HO.out HB9.out)
              have n1_ := Aside0.mk (Kd.zE HOS.out HB9.out)
              have n2_ := Aside0.mk (ze HB.out HB9.out)
              clear HO HOS HB hb HB8 HB9 BKa; have HO := n0_; have HOS := n1_; have HB := n2_; clear n0_ n1_ n2_
              go_wp2_with ((with_reducible refine qT (b := .append) (xs := #[.tmp 21, .tmp 23]) rfl ?_); at_builtin; refine Kd.yC (Kd.int .i64) (w0 := w) w.heap.size rfl (.tmp 21) (.tmp 23) 22 3 (.int .i64 0) 8 rfl Try.underlying22 yT rfl (by decide) (by omega) u3 out y [.int .i64 y] (fun k_ => some k_ ≠ (.slice (some ad1) ss.length co : Value).ownBlock) (fun _ => False) rfl rfl ?aP (fun _ hk => hk.elim) ?aF ?aO ?aB ?aS ?aL ?_; (case aP => exact rfl); (case aB => exact sqB); (case aF => exact (fun k_ hk => Kd.J6 (Kd.vr (sqR HOS.out)) k_ hk)); (case aO => exact (sqR HO.out)); (case aS => exact (zB sqB)); (case aL => have := HLen.out; omega); intro v230 w18 ho hb hg hat; rw [← NyA.out] at ho; have n0_ := Aside0.mk (Kd.ZX (ok := (fun _ => True)) (by refine sqR ?_; exact Kd.zy HOS.out (fun _ hk => ⟨trivial, hk⟩)) hg hat); have n2_ := Aside0.mk (hb); have n3_ := Aside0.mk (ho); clear HOS; clear HB; clear HO; have HOS := n0_; have HB := n2_; have HO := n3_; clear n0_ n2_ n3_; clear ho hb hg hat hca)
              go_roundg k1
              case measure => have := HK1.out; omega
              case rel => exact ⟨yA, wrap64 (x + 1), rfl, H', ⟨by have := HK1.out; omega⟩, ⟨sqR HO.out⟩, ⟨by refine sqR ?_; exact Kd.zy HOS.out (fun _ hk => hk.2)⟩, ⟨sqB⟩⟩
          · rw [if_neg c2] at H; exact absurd H (by simp)
        · rw [if_neg c1] at H
          have c1b0 : decide (x < (ss.length : Int)) = false := decide_eq_false c1
          clear c1
          obtain rfl := Option.some.inj H
          go_wp2
          go_ret
          exact ⟨_, rfl, by refine sqR ?_; exact Kd.zy HO.out (fun _ _ => trivial), sqB⟩
end Go.Proofs.Ytjlbfbpjcmjdfaa.F
end
section
namespace Go.Proofs.Ytjlbfbpjcmjdfaa.F
open Go.RowKit Go.Proofs.YtjlbfbpjcmjdfaaW.PrintWords Go.Proofs.YtjlbfbpjcmjdfaaW.PrintLast Go.Proofs.YtjlbfbpjcmjdfaaW.PrintMore
attribute [local go_sem] j9 j8 vO vV jO jP vl j6   -- for this text's walks alone
set_option linter.unusedVariables false
set_option linter.unusedSimpArgs false

def zY.f (k : Nat) (a0 : Int) (l1 : List Int) : Option (Int × List Int × Bool) := (zr.f k l1).bind fun t191 => ((qM.f k a0 t191).bind fun t195 => (if t195 = true then (some (a0, t191, true)) else (some (0, ([] : List Int), false))))
theorem zY.calls (k : Nat) (a0 : Int) (A1 : Option Addr) (c1 : Nat) (l1 : List Int) (r1 : Int) (r2 : List Int) (r3 : Bool) (w : World) (hr1 : Kd.C (Kd.int .i64) w A1 l1.length l1) (hc1 : l1.length ≤ c1) (h : zY.f k a0 l1 = some (r1, r2, r3)) :
  Calls Try.prog 18 #[.int .i64 a0, .slice A1 l1.length c1] w fun e w' => ∃ v1_ : Value, e = .returned (.tuple #[.agg #[.int .i64 r1, v1_], .bool r3]) ∧ Kd.R (Kd.int .i64) 3 w' w.heap.size (fun _ => True) v1_ r2 ∧ Below w.heap.size w w' := by
 have hu27 := Try.underlying27
 have HR1 := Aside0.mk hr1
 have HC1 := Aside0.mk hc1
 clear hr1 hc1
 have HB := Aside0.mk (Below.refl w.heap.size w)
 have H : ((zr.f k l1).bind fun t191 => ((qM.f k a0 t191).bind fun t195 => (if t195 = true then (some (a0, t191, true)) else (some (0, ([] : List Int), false))))) = some (r1, r2, r3) := h
 clear h
 replace H := Option.bind_eq_some_iff.mp H
 obtain ⟨t191, A30, H⟩ := H
 replace H : ((qM.f k a0 t191).bind fun t195 => (if t195 = true then (some (a0, t191, true)) else (some (0, ([] : List Int), false)))) = some (r1, r2, r3) := H
 have A3 := Aside0.mk A30
 clear A30
 replace H := Option.bind_eq_some_iff.mp H
 obtain ⟨t195, A40, H⟩ := H
 replace H : (if t195 = true then (some (a0, t191, true)) else (some (0, ([] : List Int), false))) = some (r1, r2, r3) := H
 have A4 := Aside0.mk A40
 clear A40
 by_cases c5 : t195 = true
 ·subst c5
  have H1 : (some (a0, t191, true)) = some (r1, r2, r3) := by rw [if_pos rfl] at H; exact H
  clear H
  have H := H1
  clear H1
  simp only [Option.some.injEq, Prod.mk.injEq] at H
  obtain ⟨rfl, rfl, rfl⟩ := H
  go_enter Try.func18, Try.ntmps18
  go_wp2_with (first | ((with_reducible refine zq (N := 4) rfl ?_); refine zo ?hg (N := 4) ?hd (cs := #[.int .i64 0, .slice none 0 0]) (t := 27) ?hr ?_; (case hd => rfl); (case hg => rfl); (case hr => exact sqG); intro gb190 hg w6 hbox hb; have n0_ := Aside0.mk (ze sqB hb); have n1_ := Aside0.mk (hbox); have n2_ := Aside0.mk ((sqS hg : w.heap.size ≤ gb190)); have n3_ := Aside0.mk ((sqS hg : w.heap.size ≤ gb190)); clear HB; have HB := n0_; have BK190 := n1_; have GW190 := n2_; have GE190 := n3_; clear n0_ n1_ n2_ n3_; clear hb hbox hg) | ((with_reducible refine zf (f := 33) rfl ?_); refine zu (some 9) rfl rfl Try.func33 (by kernel_rfl) rfl #[.slice A1 l1.length c1] rfl sqM ?_; (with_reducible refine (zr.calls k _ _ l1 t191 _ ?side1 ?side2 A3.out).mono ?_); (case side1 => exact sqC (Kd.zI HR1.out HB.out)); (case side2 => exact HC1.out); rintro e w7 ⟨v192, rfl, ho0, hb⟩; refine ⟨_, rfl, ?_⟩; have n0_ := Aside0.mk (Kd.qq ho0 (zB sqB)); have n1_ := Aside0.mk (zd (g := gb190) (o := .cells #[.int .i64 0, .slice none 0 0] 27 (0, 0)) (sqK BK190.out) hb); have n2_ := Aside0.mk (ze sqB hb); clear BK190; clear HB; have HO193 := n0_; have BK190 := n1_; have HB := n2_; clear n0_ n1_ n2_; (try clear hb); (try clear hb2); (try clear hk); (try clear hi); (try clear ho0); obtain ⟨Ao8, co8, eo8⟩ := Kd.z8 HO193.out; subst eo8) | ((with_reducible refine zq (N := 6) rfl ?_); refine zo ?hg (N := 6) ?hd (cs := #[.int .i64 0, .slice none 0 0]) (t := 27) ?hr ?_; (case hd => rfl); (case hg => rfl); (case hr => exact sqG); intro gb194 hg w9 hbox hb; have n0_ := Aside0.mk (Kd.zE (sqR HO193.out) hb); have n1_ := Aside0.mk (zd (g := gb190) (o := .cells #[.int .i64 0, .slice none 0 0] 27 (0, 0)) (sqK BK190.out) hb); have n2_ := Aside0.mk (ze sqB hb); have n3_ := Aside0.mk (hbox); have n4_ := Aside0.mk ((sqS hg : w.heap.size ≤ gb194)); have n5_ := Aside0.mk ((sqS hg : w.heap.size ≤ gb194)); have n6_ := Aside0.mk ((by rw [hg]; exact Nat.ne_of_lt (zz (g := gb190) (o := .cells #[.int .i64 0, .slice none 0 0] 27 (0, 0)) (sqK BK190.out)) : gb190 ≠ gb194)); have n7_ := Aside0.mk ((by rw [hg]; exact Nat.ne_of_gt (zz (g := gb190) (o := .cells #[.int .i64 0, .slice none 0 0] 27 (0, 0)) (sqK BK190.out)) : gb194 ≠ gb190)); clear HO193; clear BK190; clear HB; have HO193 := n0_; have BK190 := n1_; have HB := n2_; have BK194 := n3_; have GW194 := n4_; have GE194 := n5_; have NB190_194 := n6_; have NB194_190 := n7_; clear n0_ n1_ n2_ n3_ n4_ n5_ n6_ n7_; clear hb hbox hg; have hnb10 := NB194_190.out; have hnc10 := NB190_194.out; have hcz11_0 : w9.cell? ⟨gb194, 0, none⟩ = some (.int .i64 0) := (zb BK194.out 0).trans rfl; have hcz11_1 : w9.cell? ⟨gb194, 1, none⟩ = some (.slice none 0 0) := (zb BK194.out 1).trans rfl; have hfz11_0 := za BK194.out 0; have hfz11_1 := za BK194.out 1) | ((with_reducible refine zf (f := 34) rfl ?_); refine zu (some 12) rfl rfl Try.func34 (by kernel_rfl) rfl #[.agg #[.int .i64 a0, .slice Ao8 t191.length co8]] rfl sqM ?_; (with_reducible refine (qM.calls k a0 _ _ t191 true _ ?side1 ?side2 A4.out).mono ?_); (case side1 => refine (Kd.zx (e := 3) (base := w.heap.size) (ok := fun k_ => True) (n := t191.length) (c := co8) ?_).2.2; exact (by refine sqR ?_; exact (Kd.zy (Kd.zF (p := ⟨gb194, 1, none⟩) (Kd.zF (p := ⟨gb194, 0, none⟩) (Kd.zV HO193.out BK194.out (by decide)) (fun _ hk => hk.2) (.int .i64 a0)) (fun _ hk => hk.2) (.slice Ao8 t191.length co8)) (fun _ h_ => h_.1)))); (case side2 => exact (Kd.zx HO193.out).2.1); rintro e w12 ⟨rfl, hb⟩; refine ⟨_, rfl, ?_⟩; have n0_ := Aside0.mk (Kd.zE (by refine sqR ?_; exact (Kd.zy (Kd.zF (p := ⟨gb194, 1, none⟩) (Kd.zF (p := ⟨gb194, 0, none⟩) (Kd.zV HO193.out BK194.out (by decide)) (fun _ hk => hk.2) (.int .i64 a0)) (fun _ hk => hk.2) (.slice Ao8 t191.length co8)) (fun _ h_ => h_.1))) hb); have n1_ := Aside0.mk (zd (g := gb190) (o := .cells #[.int .i64 0, .slice none 0 0] 27 (0, 0)) (by refine sqK ?_; refine zJ ?_ NB190_194.out _; refine sqK ?_; refine zJ ?_ NB190_194.out _; refine sqK ?_; exact BK190.out) hb); have n2_ := Aside0.mk (zd (g := gb194) (o := .cells #[.int .i64 a0, .slice Ao8 t191.length co8] 27 (0, 0)) (by refine sqK ?_; refine zL (cs := #[.int .i64 a0, .slice none 0 0]) ?_ 1 _ rfl; refine sqK ?_; refine zL (cs := #[.int .i64 0, .slice none 0 0]) ?_ 0 _ rfl; refine sqK ?_; exact BK194.out) hb); have n3_ := Aside0.mk (ze sqB hb); clear HO193; clear BK190; clear BK194; clear HB; have HO193 := n0_; have BK190 := n1_; have BK194 := n2_; have HB := n3_; clear n0_ n1_ n2_ n3_; (try clear hb); (try clear hb2); (try clear hk); (try clear hi); have hcz13_0 : w12.cell? ⟨gb194, 0, none⟩ = some (.int .i64 a0) := (zb BK194.out 0).trans rfl; have hcz13_1 : w12.cell? ⟨gb194, 1, none⟩ = some (.slice Ao8 t191.length co8) := (zb BK194.out 1).trans rfl; have hfz13_0 := za BK194.out 0; have hfz13_1 := za BK194.out 1; have hcz14_0 : w12.cell? ⟨gb190, 0, none⟩ = some (.int .i64 0) := (zb BK190.out 0).trans rfl; have hcz14_1 : w12.cell? ⟨gb190, 1, none⟩ = some (.slice none 0 0) := (zb BK190.out 1).trans rfl; have hfz14_0 := za BK190.out 0; have hfz14_1 := za BK190.out 1))
  refine bodyPost_ret (vu rfl _ _ gb190 27 #[.int .i64 a0, .slice Ao8 t191.length co8] (0, 0) _ rfl (by refine sqK ?_; refine zL (cs := #[.int .i64 a0, .slice none 0 0]) ?_ 1 _ rfl; refine sqK ?_; refine zL (cs := #[.int .i64 0, .slice none 0 0]) ?_ 0 _ rfl; refine sqK ?_; exact BK190.out) Try.underlying27 rfl (by kernel_rfl)) rfl ?_
  exact ⟨_, sqE, by refine sqR ?_; exact Kd.zy (Kd.zF (p := ⟨gb190, 1, none⟩) (Kd.zF (p := ⟨gb190, 0, none⟩) (Kd.zV HO193.out BK190.out (by decide)) (fun _ hk => hk.2) (.int .i64 a0)) (fun _ hk => hk.2) (.slice Ao8 t191.length co8)) (fun _ hk => trivial), sqB⟩
 ·replace c5 := Bool.eq_false_iff.mpr c5
  subst c5
  have H1 : (some (0, ([] : List Int), false)) = some (r1, r2, r3) := by rw [if_neg (show ¬ (false = true) by decide)] at H; exact H
  clear H
  have H := H1
  clear H1
  simp only [Option.some.injEq, Prod.mk.injEq] at H
  obtain ⟨rfl, rfl, rfl⟩ := H
  go_enter Try.func18, Try.ntmps18
  go_wp2_with (first | ((with_reducible refine zq (N := 4) rfl ?_); refine zo ?hg (N := 4) ?hd (cs := #[.int .i64 0, .slice none 0 0]) (t := 27) ?hr ?_; (case hd => rfl); (case hg => rfl); (case hr => exact sqG); intro gb190 hg w15 hbox hb; have n0_ := Aside0.mk (ze sqB hb); have n1_ := Aside0.mk (hbox); have n2_ := Aside0.mk ((sqS hg : w.heap.size ≤ gb190)); have n3_ := Aside0.mk ((sqS hg : w.heap.size ≤ gb190)); clear HB; have HB := n0_; have BK190 := n1_; have GW190 := n2_; have GE190 := n3_; clear n0_ n1_ n2_ n3_; clear hb hbox hg) | ((with_reducible refine zf (f := 33) rfl ?_); refine zu (some 9) rfl rfl Try.func33 (by kernel_rfl) rfl #[.slice A1 l1.length c1] rfl sqM ?_; (with_reducible refine (zr.calls k _ _ l1 t191 _ ?side1 ?side2 A3.out).mono ?_); (case side1 => exact sqC (Kd.zI HR1.out HB.out)); (case side2 => exact HC1.out); rintro e w16 ⟨v192, rfl, ho0, hb⟩; refine ⟨_, rfl, ?_⟩; have n0_ := Aside0.mk (Kd.qq ho0 (zB sqB)); have n1_ := Aside0.mk (zd (g := gb190) (o := .cells #[.int .i64 0, .slice none 0 0] 27 (0, 0)) (sqK BK190.out) hb); have n2_ := Aside0.mk (ze sqB hb); clear BK190; clear HB; have HO193 := n0_; have BK190 := n1_; have HB := n2_; clear n0_ n1_ n2_; (try clear hb); (try clear hb2); (try clear hk); (try clear hi); (try clear ho0); obtain ⟨Ao17, co17, eo17⟩ := Kd.z8 HO193.out; subst eo17) | ((with_reducible refine zq (N := 6) rfl ?_); refine zo ?hg (N := 6) ?hd (cs := #[.int .i64 0, .slice none 0 0]) (t := 27) ?hr ?_; (case hd => rfl); (case hg => rfl); (case hr => exact sqG); intro gb194 hg w18 hbox hb; have n0_ := Aside0.mk (Kd.zE (sqR HO193.out) hb); have n1_ := Aside0.mk (zd (g := gb190) (o := .cells #[.int .i64 0, .slice none 0 0] 27 (0, 0)) (sqK BK190.out) hb); have n2_ := Aside0.mk (ze sqB hb); have n3_ := Aside0.mk (hbox); have n4_ := Aside0.mk ((sqS hg : w.heap.size ≤ gb194)); have n5_ := Aside0.mk ((sqS hg : w.heap.size ≤ gb194)); have n6_ := Aside0.mk ((by rw [hg]; exact Nat.ne_of_lt (zz (g := gb190) (o := .cells #[.int .i64 0, .slice none 0 0] 27 (0, 0)) (sqK BK190.out)) : gb190 ≠ gb194)); have n7_ := Aside0.mk ((by rw [hg]; exact Nat.ne_of_gt (zz (g := gb190) (o := .cells #[.int .i64 0, .slice none 0 0] 27 (0, 0)) (sqK BK190.out)) : gb194 ≠ gb190)); clear HO193; clear BK190; clear HB; have HO193 := n0_; have BK190 := n1_; have HB := n2_; have BK194 := n3_; have GW194 := n4_; have GE194 := n5_; have NB190_194 := n6_; have NB194_190 := n7_; clear n0_ n1_ n2_ n3_ n4_ n5_ n6_ n7_; clear hb hbox hg; have hnb19 := NB194_190.out; have hnc19 := NB190_194.out; have hcz20_0 : w18.cell? ⟨gb194, 0, none⟩ = some (.int .i64 0) := (zb BK194.out 0).trans rfl; have hcz20_1 : w18.cell? ⟨gb194, 1, none⟩ = some (.slice none 0 0) := (zb BK194.out 1).trans rfl; have hfz20_0 := za BK194.out 0; have hfz20_1 := za BK194.out 1) | ((with_reducible refine zf (f := 34) rfl ?_); refine zu (some 12) rfl rfl Try.func34 (by kernel_rfl) rfl #[.agg #[.int .i64 a0, .slice Ao17 t191.length co17]] rfl sqM ?_; (with_reducible refine (qM.calls k a0 _ _ t191 false _ ?side1 ?side2 A4.out).mono ?_); (case side1 => refine (Kd.zx (e := 3) (base := w.heap.size) (ok := fun k_ => True) (n := t191.length) (c := co17) ?_).2.2; exact (by refine sqR ?_; exact (Kd.zy (Kd.zF (p := ⟨gb194, 1, none⟩) (Kd.zF (p := ⟨gb194, 0, none⟩) (Kd.zV HO193.out BK194.out (by decide)) (fun _ hk => hk.2) (.int .i64 a0)) (fun _ hk => hk.2) (.slice Ao17 t191.length co17)) (fun _ h_ => h_.1)))); (case side2 => exact (Kd.zx HO193.out).2.1); rintro e w21 ⟨rfl, hb⟩; refine ⟨_, rfl, ?_⟩; have n0_ := Aside0.mk (Kd.zE (by refine sqR ?_; exact (Kd.zy (Kd.zF (p := ⟨gb194, 1, none⟩) (Kd.zF (p := ⟨gb194, 0, none⟩) (Kd.zV HO193.out BK194.out (by decide)) (fun _ hk => hk.2) (.int .i64 a0)) (fun _ hk => hk.2) (.slice Ao17 t191.length co17)) (fun _ h_ => h_.1))) hb); have n1_ := Aside0.mk (zd (g := gb190) (o := .cells #[.int .i64 0, .slice none 0 0] 27 (0, 0)) (by refine sqK ?_; refine zJ ?_ NB190_194.out _; refine sqK ?_; refine zJ ?_ NB190_194.out _; refine sqK ?_; exact BK190.out) hb); have n2_ := Aside0.mk (zd (g := gb194) (o := .cells #[.int .i64 a0, .slice Ao17 t191.length co17] 27 (0, 0)) (by refine sqK ?_; refine zL (cs := #[.int .i64 a0, .slice none 0 0]) ?_ 1 _ rfl; refine sqK ?_; refine zL (cs := #[.int .i64 0, .slice none 0 0]) ?_ 0 _ rfl; refine sqK ?_; exact BK194.out) hb); have n3_ := Aside0.mk (ze sqB hb); clear HO193; clear BK190; clear BK194; clear HB; have HO193 := n0_; have BK190 := n1_; have BK194 := n2_; have HB := n3_; clear n0_ n1_ n2_ n3_; (try clear hb); (try clear hb2); (try clear hk); (try clear hi); have hcz22_0 : w21.cell? ⟨gb190, 0, none⟩ = some (.int .i64 0) := (zb BK190.out 0).trans rfl; have hcz22_1 : w21.cell? ⟨gb190, 1, none⟩ = some (.slice none 0 0) := (zb BK190.out 1).trans rfl; have hfz22_0 := za BK190.out 0; have hfz22_1 := za BK190.out 1))
  refine bodyPost_ret (vu rfl _ _ gb190 27 #[.int .i64 0, .slice none 0 0] (0, 0) _ rfl (by refine sqK ?_; refine zL (cs := #[.int .i64 0, .slice none 0 0]) ?_ 1 _ rfl; refine sqK ?_; refine zL (cs := #[.int .i64 0, .slice none 0 0]) ?_ 0 _ rfl; refine sqK ?_; exact BK190.out) Try.underlying27 rfl (by kernel_rfl)) rfl ?_
  exact ⟨_, sqE, sqN, sqB⟩

end Go.Proofs.Ytjlbfbpjcmjdfaa.F
end
