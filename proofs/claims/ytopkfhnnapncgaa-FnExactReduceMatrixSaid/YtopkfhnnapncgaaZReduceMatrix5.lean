/- Several texts of this session in one: Fx5, LSets, LMatrix, LCell, LReduce, LReduceS, LReduceI, LReduceM, LMark, LMarkM, PuFnExactReduceMatrix, LawFnExactReduceMatrix. Conditions: as each theorem says. -/
import Derived.Test.YtopkfhnnapncgaaZReduceMatrix0
import Derived.Test.YtopkfhnnapncgaaZReduceMatrix1
import Derived.Test.YtopkfhnnapncgaaZReduceMatrix4
import Derived.Test.YtopkfhnnapncgaaZReduceMatrix2
import Derived.Test.YtopkfhnnapncgaaZReduceMatrix3
import Derived.Test.YtopkfhnnapncgaaRows
import Derived.WalkKit
import Derived.ProofKit
import Derived.OpenShut
import Derived.ShutString
import Derived.ChangeOld
import Derived.Below
import Derived.SizedLaws
import Derived.Lib.SmallJoins
set_option maxHeartbeats 8000000
set_option maxRecDepth 100000
section
namespace Go.Proofs.Ytopkfhnnapncgaa.F
open Go.RowKit Go.Proofs.YtopkfhnnapncgaaW.PrintWords Go.Proofs.YtopkfhnnapncgaaW.PrintLast Go.Proofs.YtopkfhnnapncgaaW.PrintMore
attribute [local go_sem] jw jv jQ jN ji jg jx jy   -- for this text's walks alone
set_option linter.unusedVariables false
set_option linter.unusedSimpArgs false

def q6.f (a0 : Int) (a1 : Int) : Option (Bool) := (zy.f a0 0 8).bind fun t256 => (if t256 = true then (if 0 ≤ (IntKind.u64.wrap (a0)) then ((zy.f a1 0 (wrap64 ((shl .i64 1 (IntKind.u64.wrap (a0))) - 1))).bind fun t257 => (some t257)) else (none)) else (some false))
theorem q6.calls (a0 : Int) (a1 : Int) (r : Bool) (w : World) (h : q6.f a0 a1 = some r) :
  Calls Try.prog 49 #[.int .i64 a0, .int .i64 a1] w fun e w' => e = .returned (.bool r) ∧ zq w w' := by
 have H : ((zy.f a0 0 8).bind fun t256 => (if t256 = true then (if 0 ≤ (IntKind.u64.wrap (a0)) then ((zy.f a1 0 (wrap64 ((shl .i64 1 (IntKind.u64.wrap (a0))) - 1))).bind fun t257 => (some t257)) else (none)) else (some false))) = some r := h
 clear h
 replace H := Option.bind_eq_some_iff.mp H
 obtain ⟨t256, A30, H⟩ := H
 replace H : (if t256 = true then (if 0 ≤ (IntKind.u64.wrap (a0)) then ((zy.f a1 0 (wrap64 ((shl .i64 1 (IntKind.u64.wrap (a0))) - 1))).bind fun t257 => (some t257)) else (none)) else (some false)) = some r := H
 have A3 := Aside0.mk A30
 clear A30
 by_cases c4 : t256 = true
 ·subst c4
  have H1 : (if 0 ≤ (IntKind.u64.wrap (a0)) then ((zy.f a1 0 (wrap64 ((shl .i64 1 (IntKind.u64.wrap (a0))) - 1))).bind fun t257 => (some t257)) else (none)) = some r := by rw [if_pos rfl] at H; exact H
  clear H
  have H := H1
  clear H1
  obtain ⟨ji5, hji5⟩ : ∃ j_ : Int, (IntKind.u64.wrap (a0)) = j_ := ⟨_, rfl⟩
  replace H : (if 0 ≤ (ji5) then ((zy.f a1 0 (wrap64 ((shl .i64 1 (ji5)) - 1))).bind fun t257 => (some t257)) else (none)) = some r := by first | (rw [hji5] at H; exact H) | (simp only [hji5] at H ⊢; exact H)
  (try rw [hji5] at A3)
  by_cases c6 : 0 ≤ (ji5)
  ·rw [if_pos c6] at H
   have c6b0 := eq_true c6
   have c6b1 : decide (0 ≤ (ji5)) = true := decide_eq_true c6
   clear c6
   obtain ⟨ji7, hji7⟩ : ∃ j_ : Int, (shl .i64 1 (ji5)) = j_ := ⟨_, rfl⟩
   replace H : ((zy.f a1 0 (wrap64 ((ji7) - 1))).bind fun t257 => (some t257)) = some r := by first | (rw [hji7] at H; exact H) | (simp only [hji7] at H ⊢; exact H)
   (try rw [hji7] at A3)
   have hji7_ : (IntKind.i64.wrap (1 * 2 ^ min (ji5).toNat 64)) = ji7 := hji7
   have hji7z : (ji5) ≤ 64 → (IntKind.i64.wrap (1 * 2 ^ (ji5).toNat)) = ji7 := y9 hji7
   have hji7u : (IntKind.i64.wrap (2 ^ min (ji5).toNat 64)) = ji7 := by have h_ := hji7_; rw [Int.one_mul] at h_; exact h_
   have hji7v : (ji5) ≤ 64 → (IntKind.i64.wrap (2 ^ (ji5).toNat)) = ji7 := fun hle_ => by have h_ := hji7z hle_; rw [Int.one_mul] at h_; exact h_
   have hji7y : (wrap64 (1 * 2 ^ min (ji5).toNat 64)) = ji7 := (zd _).symm.trans hji7_
   have hji7x : (ji5) ≤ 64 → (wrap64 (1 * 2 ^ (ji5).toNat)) = ji7 := fun h_ => (zd _).symm.trans (hji7z h_)
   replace H := Option.bind_eq_some_iff.mp H
   obtain ⟨t257, A80, H⟩ := H
   replace H : (some t257) = some r := H
   have A8 := Aside0.mk A80
   clear A80
   obtain rfl := Option.some.inj H
   go_enter Try.func49, Try.ntmps49
   go_wp2_with (first | ((with_reducible refine zo (f := 43) rfl ?_); refine zT (some 6) rfl rfl Try.func43 (by kernel_rfl) rfl #[.int .i64 a0, .int .i64 0, .int .i64 8] rfl sqM ?_; (with_reducible refine (zy.calls a0 0 8 true _ A3.out).mono ?_); rintro e w' ⟨rfl, ⟨nd, rfl⟩⟩; refine ⟨_, rfl, ?_⟩) | (go_at_call 43; (try simp only [zd, ze]); (with_reducible refine (zy.calls a1 0 (wrap64 ((ji7) - 1)) t257 _ A8.out).mono ?_); rintro e w' ⟨rfl, ⟨nd, rfl⟩⟩))
   go_ret
   exact ⟨by first | rfl | (simp; done) | (simp only [← hji5, ← hji7] <;> (first | rfl | simp)) | (simp [*]; done), by repeat (first | exact zq.refl _ | apply zq.step)⟩
  ·rw [if_neg c6] at H
   exact absurd H (by simp)
 ·replace c4 := Bool.eq_false_iff.mpr c4
  subst c4
  have H1 : (some false) = some r := by rw [if_neg (show ¬ (false = true) by decide)] at H; exact H
  clear H
  have H := H1
  clear H1
  obtain rfl := Option.some.inj H
  go_enter Try.func49, Try.ntmps49
  go_wp2_with (first | ((with_reducible refine zo (f := 43) rfl ?_); refine zT (some 6) rfl rfl Try.func43 (by kernel_rfl) rfl #[.int .i64 a0, .int .i64 0, .int .i64 8] rfl sqM ?_; (with_reducible refine (zy.calls a0 0 8 false _ A3.out).mono ?_); rintro e w' ⟨rfl, ⟨nd, rfl⟩⟩; refine ⟨_, rfl, ?_⟩))
  go_ret
  exact ⟨sqD, by repeat (first | exact zq.refl _ | apply zq.step)⟩

def jK.f (a0 : Int) (a1 : Int) : Option (Bool) := if 0 ≤ (IntKind.u64.wrap (a1)) then (some ((Go.bits .and .i64 (shr .i64 a0 (IntKind.u64.wrap (a1))) 1) == 1)) else (none)
theorem jK.calls (a0 : Int) (a1 : Int) (r : Bool) (w : World) (h : jK.f a0 a1 = some r) :
  Calls Try.prog 70 #[.int .i64 a0, .int .i64 a1] w fun e w' => e = .returned (.bool r) ∧ zq w w' := by
 have H : (if 0 ≤ (IntKind.u64.wrap (a1)) then (some ((Go.bits .and .i64 (shr .i64 a0 (IntKind.u64.wrap (a1))) 1) == 1)) else (none)) = some r := h
 clear h
 obtain ⟨ji3, hji3⟩ : ∃ j_ : Int, (IntKind.u64.wrap (a1)) = j_ := ⟨_, rfl⟩
 replace H : (if 0 ≤ (ji3) then (some ((Go.bits .and .i64 (shr .i64 a0 (ji3)) 1) == 1)) else (none)) = some r := by first | (rw [hji3] at H; exact H) | (simp only [hji3] at H ⊢; exact H)
 by_cases c4 : 0 ≤ (ji3)
 ·rw [if_pos c4] at H
  have c4b0 := eq_true c4
  have c4b1 : decide (0 ≤ (ji3)) = true := decide_eq_true c4
  clear c4
  obtain ⟨ji5, hji5⟩ : ∃ j_ : Int, (shr .i64 a0 (ji3)) = j_ := ⟨_, rfl⟩
  replace H : (some ((Go.bits .and .i64 (ji5) 1) == 1)) = some r := by first | (rw [hji5] at H; exact H) | (simp only [hji5] at H ⊢; exact H)
  have hji5_ : (a0 / 2 ^ min (ji3).toNat 64) = ji5 := hji5
  have hji5z : (ji3) ≤ 64 → (a0 / 2 ^ (ji3).toNat) = ji5 := y2 hji5
  obtain rfl := Option.some.inj H
  go_enter Try.func70, Try.ntmps70
  go_wp2
  go_ret
  exact ⟨by first | rfl | (simp; done) | (simp only [← hji3, ← hji5] <;> (first | rfl | simp)) | (simp [*]; done), by repeat (first | exact zq.refl _ | apply zq.step)⟩
 ·rw [if_neg c4] at H
  exact absurd H (by simp)

mutual
def zk.l0 : Nat → Int → Int → Int → Int → List Int → Int → Int → Option (Int)
 | 0, _, _, _, _, _, _, _ => none
 | k + 1, x0, x1, x2, x4, x11, x12, x13 => if x13 < x2 then ((jK.f x4 x13).bind fun t264 => (if t264 = true then (zk.l1 k x0 x1 x2 x4 x11 x12 x13 x12) else (zk.l0 k x0 x1 x2 x4 x11 x12 (wrap64 (x13 + 1))))) else (some x12)
def zk.j2 : Nat → Int → Int → Int → Int → List Int → Int → Int → Int → Option (Int)
 | 0, _, _, _, _, _, _, _, _ => none
 | k + 1, x0, x1, x2, x4, x11, x12, x13, x14 => if x14 ≥ x1 then (zk.l0 k x0 x1 x2 x4 x11 x12 (wrap64 (x13 + 1))) else (zk.l2 k x0 x1 x2 x4 x11 x12 x13 x14 0)
def zk.l2 : Nat → Int → Int → Int → Int → List Int → Int → Int → Int → Int → Option (Int)
 | 0, _, _, _, _, _, _, _, _, _ => none
 | k + 1, x0, x1, x2, x4, x11, x12, x13, x14, x15 => if x15 < x2 then (if 0 ≤ (wrap64 ((wrap64 (x14 * x2)) + x15)) then (if (wrap64 ((wrap64 (x14 * x2)) + x15)) < (x11.length : Int) then (if 0 ≤ (wrap64 ((wrap64 (x12 * x2)) + x15)) then (if (wrap64 ((wrap64 (x12 * x2)) + x15)) < (x11.length : Int) then (zk.l2 k x0 x1 x2 x4 ((x11.set ((wrap64 ((wrap64 (x14 * x2)) + x15)) : Int).toNat (rd x11 (wrap64 ((wrap64 (x12 * x2)) + x15)))).set ((wrap64 ((wrap64 (x12 * x2)) + x15)) : Int).toNat (rd x11 (wrap64 ((wrap64 (x14 * x2)) + x15)))) x12 x13 x14 (wrap64 (x15 + 1))) else (none)) else (none)) else (none)) else (none)) else (zk.l3 k x0 x1 x2 x4 x11 x12 x13 (wrap64 (x12 + 1)))
def zk.l3 : Nat → Int → Int → Int → Int → List Int → Int → Int → Int → Option (Int)
 | 0, _, _, _, _, _, _, _, _ => none
 | k + 1, x0, x1, x2, x4, x11, x12, x13, x17 => if x17 < x1 then (if 0 ≤ (wrap64 ((wrap64 (x17 * x2)) + x13)) then (if (wrap64 ((wrap64 (x17 * x2)) + x13)) < (x11.length : Int) then (if 0 ≤ (wrap64 ((wrap64 (x12 * x2)) + x13)) then (if (wrap64 ((wrap64 (x12 * x2)) + x13)) < (x11.length : Int) then (zk.l4 k x0 x1 x2 x4 x11 x12 x13 x17 (rd x11 (wrap64 ((wrap64 (x17 * x2)) + x13))) (rd x11 (wrap64 ((wrap64 (x12 * x2)) + x13))) 0) else (none)) else (none)) else (none)) else (none)) else (zk.l0 k x0 x1 x2 x4 x11 (wrap64 (x12 + 1)) (wrap64 (x13 + 1)))
def zk.l4 : Nat → Int → Int → Int → Int → List Int → Int → Int → Int → Int → Int → Int → Option (Int)
 | 0, _, _, _, _, _, _, _, _, _, _, _ => none
 | k + 1, x0, x1, x2, x4, x11, x12, x13, x17, x18, x19, x20 => if x20 < x2 then (if 0 ≤ (wrap64 ((wrap64 (x17 * x2)) + x20)) then (if (wrap64 ((wrap64 (x17 * x2)) + x20)) < (x11.length : Int) then (if 0 ≤ (wrap64 ((wrap64 (x12 * x2)) + x20)) then (if (wrap64 ((wrap64 (x12 * x2)) + x20)) < (x11.length : Int) then (if x0 = 0 then (none) else (zk.l4 k x0 x1 x2 x4 (x11.set ((wrap64 ((wrap64 (x17 * x2)) + x20)) : Int).toNat (Int.tmod (wrap64 ((Int.tmod (wrap64 ((wrap64 ((rd x11 (wrap64 ((wrap64 (x17 * x2)) + x20))) * x19)) - (wrap64 ((rd x11 (wrap64 ((wrap64 (x12 * x2)) + x20))) * x18)))) x0) + x0)) x0)) x12 x13 x17 x18 x19 (wrap64 (x20 + 1)))) else (none)) else (none)) else (none)) else (none)) else (zk.l3 k x0 x1 x2 x4 x11 x12 x13 (wrap64 (x17 + 1)))
def zk.l1 : Nat → Int → Int → Int → Int → List Int → Int → Int → Int → Option (Int)
 | 0, _, _, _, _, _, _, _, _ => none
 | k + 1, x0, x1, x2, x4, x11, x12, x13, x14 => if x14 < x1 then (if 0 ≤ (wrap64 ((wrap64 (x14 * x2)) + x13)) then (if (wrap64 ((wrap64 (x14 * x2)) + x13)) < (x11.length : Int) then (if (rd x11 (wrap64 ((wrap64 (x14 * x2)) + x13))) = 0 then (zk.l1 k x0 x1 x2 x4 x11 x12 x13 (wrap64 (x14 + 1))) else (zk.j2 k x0 x1 x2 x4 x11 x12 x13 x14)) else (none)) else (none)) else (zk.j2 k x0 x1 x2 x4 x11 x12 x13 x14)
end
def zk.f (k : Nat) (a0 : Int) (a1 : Int) (a2 : Int) (l3 : List Int) (a4 : Int) : Option (Int) := (some (([] : List Int) : List Int)).bind fun y258 => (if y258.length + l3.length < 17592186044416 then (zk.l0 k a0 a1 a2 a4 (y258 ++ l3) 0 0) else (none))
def zk.T25 : Bool × List (List Nat × List Nat) := (true, [([], []), ([], []), ([], []), ([1, 2], [1, 2]), ([], []), ([3, 4], [3, 4]), ([], []), ([], []), ([], []), ([7, 8], [7, 8]), ([], []), ([9, 10], [9, 10]), ([6, 11], [6, 11]), ([12], [12]), ([], []), ([13, 14], [13, 14]), ([], []), ([], []), ([], []), ([17, 18], [17, 18]), ([], []), ([19, 20], [19, 20]), ([16, 21], [16, 21]), ([22], [22]), ([], []), ([23, 24], [23, 24]), ([15, 25], [15, 25]), ([], []), ([26, 27], [26, 27]), ([], []), ([28, 29], [28, 29]), ([], []), ([30, 31], [30, 31]), ([0, 5, 0, 1, 2, 3, 4, 5, 6, 7, 8, 9, 10, 11, 12, 13, 14, 15, 16, 17, 18, 19, 20, 21, 22, 23, 24, 25, 26, 27, 28, 29, 30, 31, 32], [0, 5]), ([33, 32, 0, 1, 2, 3, 4, 5, 6, 7, 8, 9, 10, 11, 12, 13, 14, 15, 16, 17, 18, 19, 20, 21, 22, 23, 24, 25, 26, 27, 28, 29, 30, 31, 32], [32, 33])])
def zk.B25 : List Nat := [0, 0, 0, 6, 0, 30, 0, 0, 0, 384, 0, 1920, 4032, 8128, 0, 32704, 0, 0, 0, 393216, 0, 1966080, 4128768, 8323072, 0, 33488896, 67108800, 0, 268435392, 0, 1073741760, 0, 4294967232, 8589934591, 17179869183]
theorem zk.JT : jf .any (opsOf Try.f57 25) = zk.T25 := by kernel_rfl
theorem zk.Ju : qT zk.T25.2 zk.B25 = true := by kernel_rfl
theorem zk.calls (k : Nat) (a0 : Int) (a1 : Int) (a2 : Int) (A3 : Option Addr) (c3 : Nat) (l3 : List Int) (a4 : Int) (r : Int) (w : World) (hr3 : Kd.C (Kd.int .i64) w A3 l3.length l3) (hc3 : l3.length ≤ c3) (h : zk.f k a0 a1 a2 l3 a4 = some r) :
  Calls Try.prog 57 #[.int .i64 a0, .int .i64 a1, .int .i64 a2, .slice A3 l3.length c3, .int .i64 a4] w fun e w' => e = .returned (.int .i64 r) ∧ Below w.heap.size w w' := by
 have HR3 := Aside0.mk hr3
 have HC3 := Aside0.mk hc3
 clear hr3 hc3
 have HB := Aside0.mk (Below.refl w.heap.size w)
 have H : ((some (([] : List Int) : List Int)).bind fun y258 => (if y258.length + l3.length < 17592186044416 then (zk.l0 k a0 a1 a2 a4 (y258 ++ l3) 0 0) else (none))) = some r := h
 clear h
 obtain ⟨y258, hy258⟩ : ∃ y_ : List Int, y_ = (([] : List Int)) := ⟨_, rfl⟩
 replace H : (if y258.length + l3.length < 17592186044416 then (zk.l0 k a0 a1 a2 a4 (y258 ++ l3) 0 0) else (none)) = some r := by first | (rw [hy258]; with_reducible exact H) | (have H2_ := (Option.bind_some _ _).symm.trans H; rw [hy258]; with_reducible exact H2_) | (have H2_ := (Option.bind_some _ _).symm.trans H; with_reducible exact H2_) | with_reducible exact H | (rw [hy258]; exact H) | exact H
 have Ny258 := Aside0.mk hy258
 clear hy258
 by_cases c6 : y258.length + l3.length < 17592186044416
 ·rw [if_pos c6] at H
  have LMc6 := Aside0.mk c6
  clear c6
  obtain ⟨y261, hy261⟩ : ∃ y_ : List Int, y_ = (y258 ++ l3) := ⟨_, rfl⟩
  replace H : (zk.l0 k a0 a1 a2 a4 y261 0 0) = some r := by first | (rw [hy261]; with_reducible exact H) | (have H2_ := (Option.bind_some _ _).symm.trans H; rw [hy261]; with_reducible exact H2_) | (have H2_ := (Option.bind_some _ _).symm.trans H; with_reducible exact H2_) | with_reducible exact H | (rw [hy261]; exact H) | exact H
  have Ny261 := Aside0.mk hy261
  clear hy261
  have H' := Aside0.mk H
  clear H
  go_enter Try.func57, Try.ntmps57
  go_wp2_with (first | ((with_reducible refine zA (N := 21) rfl ?_); refine Kd.yh (Kd.int .i64) _ 3 ?hg (N := 21) ?hd (xs := ([] : List Int)) (inner := []) (ok := fun _ => True) (okp := fun _ => True) ?hr ?hp (fun _ hk => hk) trivial (Below.refl _ _) (Nat.le_refl _) (by simp) ?_; (case hd => rfl); (case hg => rfl); (case hr => exact sqG); (case hp => exact (qk.none _ _)); intro v259 w7 ho8 hb hg_ hnew_; clear hg_ hnew_; (first | rw [← Ny258.out] at ho8 | (simp only [Int.reduceToNat] at ho8; rw [← Ny258.out] at ho8)); have n0_ := Aside0.mk (Kd.qx ho8 (zO sqB)); have n1_ := Aside0.mk (zj sqB hb); clear HB; have HO260 := n0_; have HB := n1_; clear n0_ n1_; clear hb ho8) | ((with_reducible refine qV (b := .append) (xs := #[.tmp 21, .tmp 22]) rfl ?_); at_builtin; refine Kd.jt (Kd.int .i64) (w0 := w) w.heap.size rfl (.tmp 21) (.tmp 22) 22 3 (.int .i64 0) 8 rfl Try.underlying22 vq rfl (by decide) (by omega) v259 y258 l3 _ _ _ (fun _ => True) (fun _ => False) rfl rfl ?aO ?aR (fun _ _ h => h) (fun _ h => h.elim) ?aF ?aB ?aS ?aL ?_; (case aR => exact sqC (Kd.qc HR3.out HB.out)); (case aB => exact sqB); (case aF => exact (fun _ _ => trivial)); (case aO => exact (sqR HO260.out)); (case aS => exact (zO sqB)); (case aL => have := LMc6.out; omega); intro v262 w9 ho hb hg hat; rw [← Ny261.out] at ho; have n0_ := Aside0.mk (hb); have n1_ := Aside0.mk (ho); clear HB; clear HO260; have HB := n0_; have HO263 := n1_; clear n0_ n1_; clear ho hb hg hat))
  go_loopg [12, 13] k (fun kq v12 v13 w' => ∃ (x11_1 : List Int) (x12_1 : Int) (x13_1 : Int), v12 = .int .i64 x12_1 ∧ v13 = .int .i64 x13_1 ∧ Aside0 (zk.l0 kq a0 a1 a2 a4 x11_1 x12_1 x13_1 = some r) ∧ Aside0 (kq ≤ k) ∧ Aside0 (Kd.R (Kd.int .i64) 3 w' w.heap.size (fun _ => True) v262 x11_1) ∧ Aside0 (Below w.heap.size w w'))
  case atStart => exact ⟨(y261), (0), (0), (sqD), (sqD), H', ⟨Nat.le_refl _⟩, ⟨sqR HO263.out⟩, ⟨sqB⟩⟩
  case round =>
   clear H'
   try clear p2
   try clear c3
   try clear c5
   try clear c6
   obtain ⟨x11_1, x12_1, x13_1, rfl, rfl, HA, HK1, HO_11, HB⟩ := hrel
   cases gk with
   | zero => exact absurd HA.out (by simp [zk.l0])
   | succ k1 =>
    have H := HA.out
    clear HA
    simp only [zk.l0] at H
    by_cases c10 : x13_1 < a2
    ·rw [if_pos c10] at H
     have c10b0 : decide (x13_1 < a2) = true := decide_eq_true c10
     clear c10
     replace H := Option.bind_eq_some_iff.mp H
     obtain ⟨t264, A110, H⟩ := H
     replace H : (if t264 = true then (zk.l1 k1 a0 a1 a2 a4 x11_1 x12_1 x13_1 x12_1) else (zk.l0 k1 a0 a1 a2 a4 x11_1 x12_1 (wrap64 (x13_1 + 1)))) = some r := H
     have A11 := Aside0.mk A110
     clear A110
     by_cases c12 : t264 = true
     ·subst c12
      have H1 : (zk.l1 k1 a0 a1 a2 a4 x11_1 x12_1 x13_1 x12_1) = some r := by rw [if_pos rfl] at H; exact H
      clear H
      have H := H1
      clear H1
      have HC13 := Aside0.mk H
      clear H
      go_upto_block 2 with (first | ((with_reducible refine zo (f := 70) rfl ?_); refine zT (some 31) rfl rfl Try.func70 (by kernel_rfl) rfl #[.int .i64 a4, .int .i64 x13_1] rfl sqM ?_; (with_reducible refine (jK.calls a4 x13_1 true _ A11.out).mono ?_); rintro e w' ⟨rfl, ⟨nd, rfl⟩⟩; refine ⟨_, rfl, ?_⟩))
      (try simp only [Act.put, List.setIfInBounds_toArray, List.set_cons_zero, List.set_cons_succ])
      go_cut [14] (fun v14 wc => ∃ (kq : Nat) (x14_12 : Int), v14 = .int .i64 x14_12 ∧ Aside0 (zk.j2 kq a0 a1 a2 a4 x11_1 x12_1 x13_1 x14_12 = some r) ∧ Aside0 (kq ≤ k1) ∧ Aside0 (Kd.R (Kd.int .i64) 3 wc w.heap.size (fun _ => True) v262 x11_1) ∧ Aside0 (Below w.heap.size w wc))
      case first =>
       have H := HC13.out
       clear HC13
       have H' := Aside0.mk H
       clear H
       go_wp2
       go_loopg [14] k1 (fun kq v14 w' => ∃ (x14_2 : Int), v14 = .int .i64 x14_2 ∧ Aside0 (zk.l1 kq a0 a1 a2 a4 x11_1 x12_1 x13_1 x14_2 = some r) ∧ Aside0 (kq ≤ k1) ∧ Aside0 (Kd.R (Kd.int .i64) 3 w' w.heap.size (fun _ => True) v262 x11_1) ∧ Aside0 (Below w.heap.size w w'))
       case atStart => exact ⟨(x12_1), (sqD), H', ⟨Nat.le_refl _⟩, ⟨sqR HO_11.out⟩, ⟨sqB⟩⟩
       case round =>
        clear H'
        try clear c1
        try clear p2
        try clear c3
        try clear c5
        try clear c6
        try clear p6
        try clear c7
        try clear c10
        try clear c10b0
        try clear c12
        try clear p2
        obtain ⟨x14_2, rfl, HA, HK2, HO_11, HB⟩ := hrel
        cases gk with
        | zero => exact absurd HA.out (by simp [zk.l1])
        | succ k2 =>
         have H := HA.out
         clear HA
         simp only [zk.l1] at H
         by_cases c14 : x14_2 < a1
         ·rw [if_pos c14] at H
          have c14b0 : decide (x14_2 < a1) = true := decide_eq_true c14
          clear c14
          (first | rw [c14b0] | (simp only [zd, ze]; rw [c14b0]) | skip)
          obtain ⟨ji15, hji15⟩ : ∃ j_ : Int, (wrap64 ((wrap64 (x14_2 * a2)) + x13_1)) = j_ := ⟨_, rfl⟩
          replace H : (if 0 ≤ (ji15) then (if (ji15) < (x11_1.length : Int) then (if (rd x11_1 (ji15)) = 0 then (zk.l1 k2 a0 a1 a2 a4 x11_1 x12_1 x13_1 (wrap64 (x14_2 + 1))) else (zk.j2 k2 a0 a1 a2 a4 x11_1 x12_1 x13_1 x14_2)) else (none)) else (none)) = some r := by first | (rw [hji15] at H; exact H) | (simp only [hji15] at H ⊢; exact H)
          have hji15w : (IntKind.i64.wrap ((wrap64 (x14_2 * a2)) + x13_1)) = ji15 := (zd _).trans hji15
          by_cases c16 : 0 ≤ (ji15)
          ·rw [if_pos c16] at H
           have c16b0 : decide (0 ≤ (ji15)) = true := decide_eq_true c16
           clear c16
           by_cases c17 : (ji15) < (x11_1.length : Int)
           ·rw [if_pos c17] at H
            have c17b0 : decide ((ji15) < (x11_1.length : Int)) = true := decide_eq_true c17
            clear c17
            by_cases c18 : (rd x11_1 (ji15)) = 0
            ·rw [if_pos c18] at H
             have c18b0 : ((rd x11_1 (ji15)) == 0) = true := beq_iff_eq.mpr c18
             have c18b1 : ((rd x11_1 (ji15)) != 0) = false := bne_eq_false_iff_eq.mpr c18
             clear c18
             have H' := Aside0.mk H
             clear H
             obtain ⟨Ao19, co19, eo19⟩ := Kd.qb HO_11.out
             subst eo19
             have p265 : 0 ≤ ((ji15) : Int) := of_decide_eq_true sqA
             have q265 : (ji15) < (x11_1.length : Int) := of_decide_eq_true sqA
             obtain ⟨ad265, e265, hx265_0⟩ := Kd.qh (Kd.zx HO_11.out).2.2 (ji15) p265 q265
             cases e265
             replace p265 := eq_true p265
             replace q265 := eq_true q265
             go_wp2
             go_roundg k2
             case measure => have := HK1.out; have := HK2.out; omega
             case rel => exact ⟨(wrap64 (x14_2 + 1)), (sqD), H', ⟨by have := HK1.out; have := HK2.out; omega⟩, ⟨sqR HO_11.out⟩, ⟨sqB⟩⟩
            ·rw [if_neg c18] at H
             have c18b0 : ((rd x11_1 (ji15)) == 0) = false := beq_eq_false_iff_ne.mpr c18
             have c18b1 : ((rd x11_1 (ji15)) != 0) = true := bne_iff_ne.mpr c18
             have H' := Aside0.mk H
             clear H
             obtain ⟨Ao20, co20, eo20⟩ := Kd.qb HO_11.out
             subst eo20
             have p265 : 0 ≤ ((ji15) : Int) := of_decide_eq_true sqA
             have q265 : (ji15) < (x11_1.length : Int) := of_decide_eq_true sqA
             obtain ⟨ad265, e265, hx265_0⟩ := Kd.qh (Kd.zx HO_11.out).2.2 (ji15) p265 q265
             cases e265
             replace p265 := eq_true p265
             replace q265 := eq_true q265
             go_wp2
             go_meet
             case rel => exact ⟨_, (x14_2), (sqD), H', ⟨by have := HK1.out; have := HK2.out; first | omega | exact Nat.le_refl _⟩, ⟨sqR HO_11.out⟩, ⟨sqB⟩⟩
           ·rw [if_neg c17] at H
            exact absurd H (by simp)
          ·rw [if_neg c16] at H
           exact absurd H (by simp)
         ·rw [if_neg c14] at H
          have c14b0 : decide (x14_2 < a1) = false := decide_eq_false c14
          clear c14
          (first | rw [c14b0] | (simp only [zd, ze]; rw [c14b0]) | skip)
          have H' := Aside0.mk H
          clear H
          go_wp2
          go_meet
          case rel => exact ⟨_, (x14_2), (sqD), H', ⟨by have := HK1.out; have := HK2.out; first | omega | exact Nat.le_refl _⟩, ⟨sqR HO_11.out⟩, ⟨sqB⟩⟩
      case rest =>
       clear HC13
       try clear c1
       try clear p2
       try clear q2
       try clear hx2
       try clear c3
       try clear c5
       try clear c6
       try clear p6
       try clear c7
       try clear c10
       try clear c10b0
       try clear c12
       try clear c14
       try clear c14b0
       try clear c16
       try clear c16b0
       try clear c17
       try clear c17b0
       try clear c18
       try clear c18b0
       try clear c18b1
       try clear hx265_0
       try clear p2
       try clear p265
       try clear p6
       try clear q265
       obtain ⟨kq, x14_12, rfl, HA, HJ12, HO_11, HB⟩ := hcut
       cases kq with
       | zero => exact absurd HA.out (by simp [zk.j2])
       | succ kj12 =>
        have H := HA.out
        clear HA
        simp only [zk.j2] at H
        by_cases c21 : x14_12 ≥ a1
        ·rw [if_pos c21] at H
         have c21b0 : decide (a1 ≤ x14_12) = true := decide_eq_true c21
         clear c21
         have H' := Aside0.mk H
         clear H
         go_wp2
         go_roundg kj12
         case measure => have := HK1.out; have := HJ12.out; omega
         case rel => exact ⟨(x11_1), (x12_1), (wrap64 (x13_1 + 1)), (sqD), (sqD), H', ⟨by have := HK1.out; have := HJ12.out; omega⟩, ⟨sqR HO_11.out⟩, ⟨sqB⟩⟩
        ·rw [if_neg c21] at H
         have c21b0 : decide (a1 ≤ x14_12) = false := decide_eq_false c21
         clear c21
         have H' := Aside0.mk H
         clear H
         go_wp2
         go_loopg [15] kj12 (fun kq v15 w' => ∃ (x11_3 : List Int) (x15_3 : Int), v15 = .int .i64 x15_3 ∧ Aside0 (zk.l2 kq a0 a1 a2 a4 x11_3 x12_1 x13_1 x14_12 x15_3 = some r) ∧ Aside0 (kq ≤ kj12) ∧ Aside0 (Kd.R (Kd.int .i64) 3 w' w.heap.size (fun _ => True) v262 x11_3) ∧ Aside0 (Below w.heap.size w w'))
         case atStart => exact ⟨(x11_1), (0), (sqD), H', ⟨Nat.le_refl _⟩, ⟨sqR HO_11.out⟩, ⟨sqB⟩⟩
         case round =>
          clear H'
          try clear c1
          try clear c2
          try clear p2
          try clear q2
          try clear hx2
          try clear c3
          try clear c5
          try clear c6
          try clear p6
          try clear c7
          try clear c10
          try clear c10b0
          try clear c12
          try clear c14
          try clear c14b0
          try clear c16
          try clear c16b0
          try clear c17
          try clear c17b0
          try clear c18
          try clear c18b0
          try clear c18b1
          try clear c21
          try clear c21b0
          try clear hx265_0
          try clear p2
          try clear p265
          try clear p6
          try clear q2
          try clear q265
          obtain ⟨x11_3, x15_3, rfl, HA, HK3, HO_11, HB⟩ := hrel
          cases gk with
          | zero => exact absurd HA.out (by simp [zk.l2])
          | succ k3 =>
           have H := HA.out
           clear HA
           simp only [zk.l2] at H
           by_cases c22 : x15_3 < a2
           ·rw [if_pos c22] at H
            have c22b0 : decide (x15_3 < a2) = true := decide_eq_true c22
            clear c22
            obtain ⟨ji23, hji23⟩ : ∃ j_ : Int, (wrap64 ((wrap64 (x14_12 * a2)) + x15_3)) = j_ := ⟨_, rfl⟩
            replace H : (if 0 ≤ (ji23) then (if (ji23) < (x11_3.length : Int) then (if 0 ≤ (wrap64 ((wrap64 (x12_1 * a2)) + x15_3)) then (if (wrap64 ((wrap64 (x12_1 * a2)) + x15_3)) < (x11_3.length : Int) then (zk.l2 k3 a0 a1 a2 a4 ((x11_3.set ((ji23) : Int).toNat (rd x11_3 (wrap64 ((wrap64 (x12_1 * a2)) + x15_3)))).set ((wrap64 ((wrap64 (x12_1 * a2)) + x15_3)) : Int).toNat (rd x11_3 (ji23))) x12_1 x13_1 x14_12 (wrap64 (x15_3 + 1))) else (none)) else (none)) else (none)) else (none)) = some r := by first | (rw [hji23] at H; exact H) | (simp only [hji23] at H ⊢; exact H)
            have hji23w : (IntKind.i64.wrap ((wrap64 (x14_12 * a2)) + x15_3)) = ji23 := (zd _).trans hji23
            by_cases c24 : 0 ≤ (ji23)
            ·rw [if_pos c24] at H
             have c24b0 : decide (0 ≤ (ji23)) = true := decide_eq_true c24
             clear c24
             by_cases c25 : (ji23) < (x11_3.length : Int)
             ·rw [if_pos c25] at H
              have c25b0 : decide ((ji23) < (x11_3.length : Int)) = true := decide_eq_true c25
              clear c25
              obtain ⟨ji26, hji26⟩ : ∃ j_ : Int, (wrap64 ((wrap64 (x12_1 * a2)) + x15_3)) = j_ := ⟨_, rfl⟩
              replace H : (if 0 ≤ (ji26) then (if (ji26) < (x11_3.length : Int) then (zk.l2 k3 a0 a1 a2 a4 ((x11_3.set ((ji23) : Int).toNat (rd x11_3 (ji26))).set ((ji26) : Int).toNat (rd x11_3 (ji23))) x12_1 x13_1 x14_12 (wrap64 (x15_3 + 1))) else (none)) else (none)) = some r := by first | (rw [hji26] at H; exact H) | (simp only [hji26] at H ⊢; exact H)
              have hji26w : (IntKind.i64.wrap ((wrap64 (x12_1 * a2)) + x15_3)) = ji26 := (zd _).trans hji26
              by_cases c27 : 0 ≤ (ji26)
              ·rw [if_pos c27] at H
               have c27b0 : decide (0 ≤ (ji26)) = true := decide_eq_true c27
               clear c27
               by_cases c28 : (ji26) < (x11_3.length : Int)
               ·rw [if_pos c28] at H
                have c28b0 : decide ((ji26) < (x11_3.length : Int)) = true := decide_eq_true c28
                clear c28
                obtain ⟨y268, hy268⟩ : ∃ y_ : List Int, y_ = (x11_3.set ((ji23) : Int).toNat (rd x11_3 (ji26))) := ⟨_, rfl⟩
                replace H : (zk.l2 k3 a0 a1 a2 a4 (y268.set ((ji26) : Int).toNat (rd x11_3 (ji23))) x12_1 x13_1 x14_12 (wrap64 (x15_3 + 1))) = some r := by first | (rw [hy268]; with_reducible exact H) | (have H2_ := (Option.bind_some _ _).symm.trans H; rw [hy268]; with_reducible exact H2_) | (have H2_ := (Option.bind_some _ _).symm.trans H; with_reducible exact H2_) | with_reducible exact H | (rw [hy268]; exact H) | exact H
                have Ny268 := Aside0.mk hy268
                clear hy268
                obtain ⟨y269, hy269⟩ : ∃ y_ : List Int, y_ = (y268.set ((ji26) : Int).toNat (rd x11_3 (ji23))) := ⟨_, rfl⟩
                replace H : (zk.l2 k3 a0 a1 a2 a4 y269 x12_1 x13_1 x14_12 (wrap64 (x15_3 + 1))) = some r := by first | (rw [hy269]; with_reducible exact H) | (have H2_ := (Option.bind_some _ _).symm.trans H; rw [hy269]; with_reducible exact H2_) | (have H2_ := (Option.bind_some _ _).symm.trans H; with_reducible exact H2_) | with_reducible exact H | (rw [hy269]; exact H) | exact H
                have Ny269 := Aside0.mk hy269
                clear hy269
                have H' := Aside0.mk H
                clear H
                obtain ⟨Ao31, co31, eo31⟩ := Kd.qb HO_11.out
                subst eo31
                have p266 : 0 ≤ ((ji23) : Int) := of_decide_eq_true sqA
                have q266 : (ji23) < (x11_3.length : Int) := of_decide_eq_true sqA
                obtain ⟨ad266, e266, hx266_0⟩ := Kd.qh (Kd.zx HO_11.out).2.2 (ji23) p266 q266
                cases e266
                replace p266 := eq_true p266
                replace q266 := eq_true q266
                have p267 : 0 ≤ ((ji26) : Int) := of_decide_eq_true sqA
                have q267 : (ji26) < (x11_3.length : Int) := of_decide_eq_true sqA
                obtain ⟨ad267, e267, hx267_0⟩ := Kd.qh (Kd.zx HO_11.out).2.2 (ji26) p267 q267
                obtain rfl : ad266 = ad267 := (by injection e267)
                replace p267 := eq_true p267
                replace q267 := eq_true q267
                have p29 : 0 ≤ ((ji23) : Int) := of_decide_eq_true sqA
                have q29 : ((ji23) : Int) < ((x11_3.length : Int) : Int) := of_decide_eq_true sqA
                obtain ⟨go29, co29, eo29, gb29, gl29, cl29, HG29⟩ := Kd.jT HO_11.out (by omega)
                (first | cases eo29 | (injection eo29 with ea_ en_ ec_; (first | subst ea_ | (injection ea_ with ea_; subst ea_)); subst ec_; clear en_))
                (try simp only [add_plain] at *)
                have GB29 := Aside0.mk gb29
                have GG29 := Aside0.mk HG29
                clear gb29 gl29 HG29
                (first | simp only [add_plain] at hx266_0 | skip)
                (first | simp only [add_plain] at hx267_0 | skip)
                obtain ⟨hx29_0, hf29_0⟩ := Kd.jb 0 HO_11.out ((ji23) : Int) p29 q29
                replace p29 := eq_true p29
                replace q29 := eq_true q29
                have HP32 := Kd.vK HO_11.out ((ji23) : Int) (rd x11_3 (ji26))
                go_wp2_with (first | ((with_reducible refine jq (t := 3) (p := 80) rfl ?_); refine jh (t := 3) (p := 80) (v := ?vo_w33) (w1 := (wr.setCell ⟨go29, ((ji23) : Int).toNat, none⟩ (.int .i64 (rd x11_3 (ji26))))) ?hg ?ho ?hn ?hr ?_; (case ho => rfl); (case hg => rfl); (case hn => rfl); (case hr => exact sqG); intro w33 hw; have hg : wr.grownBy w33 (some go29) := (by rw [hw]; exact HP32.2); have hp_ : Kd.R (Kd.int .i64) 3 w33 w.heap.size (fun _ => True) (.slice (some ⟨go29, 0, none⟩) x11_3.length co31) y268 := (by rw [hw, Ny268.out]; exact HP32.1); clear HP32; have n0_ := Aside0.mk (hp_); have n1_ := Aside0.mk ((by rw [hw]; exact zM (HB.out) GB29.out : Below w.heap.size w w33)); clear HO_11; clear HB; have HO_11 := n0_; have HB := n1_; clear n0_ n1_; clear hg hw hp_; have p30 : 0 ≤ ((ji26) : Int) := of_decide_eq_true sqA; have q30 : ((ji26) : Int) < ((x11_3.length : Int) : Int) := of_decide_eq_true sqA; obtain ⟨hx30_0, hf30_0⟩ := Kd.jb 0 HO_11.out ((ji26) : Int) p30 q30; replace p30 := eq_true p30; replace q30 := eq_true q30; obtain ⟨hy34_, hz34_⟩ := Kd.jb 0 HO_11.out ((ji26) : Int) (of_decide_eq_true sqA) (of_decide_eq_true sqA); have HP34 := Kd.vK HO_11.out ((ji26) : Int) (rd x11_3 (ji23))) | ((with_reducible refine jq (t := 3) (p := 88) rfl ?_); refine jh (t := 3) (p := 88) (v := ?vo_w35) (w1 := (w33.setCell ⟨go29, ((ji26) : Int).toNat, none⟩ (.int .i64 (rd x11_3 (ji23))))) ?hg ?ho ?hn ?hr ?_; (case ho => rfl); (case hg => rfl); (case hn => rfl); (case hr => exact sqG); intro w35 hw; have hg : w33.grownBy w35 (some go29) := (by rw [hw]; exact HP34.2); have hp_ : Kd.R (Kd.int .i64) 3 w35 w.heap.size (fun _ => True) (.slice (some ⟨go29, 0, none⟩) x11_3.length co31) y269 := (by rw [hw, Ny269.out]; exact HP34.1); clear HP34; have n0_ := Aside0.mk (hp_); have n1_ := Aside0.mk ((by rw [hw]; exact zM (HB.out) GB29.out : Below w.heap.size w w35)); clear HO_11; clear HB; have HO_11 := n0_; have HB := n1_; clear n0_ n1_; clear hg hw hp_))
                go_roundg k3
                case measure => have := HK1.out; have := HJ12.out; have := HK3.out; omega
                case rel => exact ⟨(y269), (wrap64 (x15_3 + 1)), (sqD), H', ⟨by have := HK1.out; have := HJ12.out; have := HK3.out; omega⟩, ⟨sqR HO_11.out⟩, ⟨sqB⟩⟩
               ·rw [if_neg c28] at H
                exact absurd H (by simp)
              ·rw [if_neg c27] at H
               exact absurd H (by simp)
             ·rw [if_neg c25] at H
              exact absurd H (by simp)
            ·rw [if_neg c24] at H
             exact absurd H (by simp)
           ·rw [if_neg c22] at H
            have c22b0 : decide (x15_3 < a2) = false := decide_eq_false c22
            clear c22
            have H' := Aside0.mk H
            clear H
            go_wp2
            go_loopg [17] k3 (fun kq v17 w' => ∃ (x11_4 : List Int) (x17_4 : Int), v17 = .int .i64 x17_4 ∧ Aside0 (zk.l3 kq a0 a1 a2 a4 x11_4 x12_1 x13_1 x17_4 = some r) ∧ Aside0 (kq ≤ k3) ∧ Aside0 (Kd.R (Kd.int .i64) 3 w' w.heap.size (fun _ => True) v262 x11_4) ∧ Aside0 (Below w.heap.size w w'))
            case atStart => exact ⟨(x11_3), (wrap64 (x12_1 + 1)), (sqD), H', ⟨Nat.le_refl _⟩, ⟨sqR HO_11.out⟩, ⟨sqB⟩⟩
            case round =>
             clear H'
             try clear c1
             try clear c2
             try clear p2
             try clear q2
             try clear hx2
             try clear c3
             try clear p3
             try clear q3
             try clear hx3
             try clear c5
             try clear c6
             try clear p6
             try clear c7
             try clear c10
             try clear c10b0
             try clear c12
             try clear c14
             try clear c14b0
             try clear c16
             try clear c16b0
             try clear c17
             try clear c17b0
             try clear c18
             try clear c18b0
             try clear c18b1
             try clear c21
             try clear c21b0
             try clear c22
             try clear c22b0
             try clear c24
             try clear c24b0
             try clear c25
             try clear c25b0
             try clear p26
             try clear q26
             try clear hx26
             try clear c27
             try clear c27b0
             try clear c28
             try clear c28b0
             try clear p29
             try clear q29
             try clear hx29
             try clear hf29
             try clear p30
             try clear q30
             try clear hx30
             try clear hf30
             try clear hx265_0
             try clear hx266_0
             try clear hx267_0
             try clear hx29_0
             try clear hx30_0
             try clear p2
             try clear p265
             try clear p266
             try clear p267
             try clear p29
             try clear p30
             try clear p6
             try clear q2
             try clear q265
             try clear q266
             try clear q267
             try clear q29
             try clear q30
             obtain ⟨x11_4, x17_4, rfl, HA, HK4, HO_11, HB⟩ := hrel
             cases gk with
             | zero => exact absurd HA.out (by simp [zk.l3])
             | succ k4 =>
              have H := HA.out
              clear HA
              simp only [zk.l3] at H
              by_cases c36 : x17_4 < a1
              ·rw [if_pos c36] at H
               have c36b0 : decide (x17_4 < a1) = true := decide_eq_true c36
               clear c36
               obtain ⟨ji37, hji37⟩ : ∃ j_ : Int, (wrap64 ((wrap64 (x17_4 * a2)) + x13_1)) = j_ := ⟨_, rfl⟩
               replace H : (if 0 ≤ (ji37) then (if (ji37) < (x11_4.length : Int) then (if 0 ≤ (wrap64 ((wrap64 (x12_1 * a2)) + x13_1)) then (if (wrap64 ((wrap64 (x12_1 * a2)) + x13_1)) < (x11_4.length : Int) then (zk.l4 k4 a0 a1 a2 a4 x11_4 x12_1 x13_1 x17_4 (rd x11_4 (ji37)) (rd x11_4 (wrap64 ((wrap64 (x12_1 * a2)) + x13_1))) 0) else (none)) else (none)) else (none)) else (none)) = some r := by first | (rw [hji37] at H; exact H) | (simp only [hji37] at H ⊢; exact H)
               have hji37w : (IntKind.i64.wrap ((wrap64 (x17_4 * a2)) + x13_1)) = ji37 := (zd _).trans hji37
               by_cases c38 : 0 ≤ (ji37)
               ·rw [if_pos c38] at H
                have c38b0 : decide (0 ≤ (ji37)) = true := decide_eq_true c38
                clear c38
                by_cases c39 : (ji37) < (x11_4.length : Int)
                ·rw [if_pos c39] at H
                 have c39b0 : decide ((ji37) < (x11_4.length : Int)) = true := decide_eq_true c39
                 clear c39
                 obtain ⟨ji40, hji40⟩ : ∃ j_ : Int, (wrap64 ((wrap64 (x12_1 * a2)) + x13_1)) = j_ := ⟨_, rfl⟩
                 replace H : (if 0 ≤ (ji40) then (if (ji40) < (x11_4.length : Int) then (zk.l4 k4 a0 a1 a2 a4 x11_4 x12_1 x13_1 x17_4 (rd x11_4 (ji37)) (rd x11_4 (ji40)) 0) else (none)) else (none)) = some r := by first | (rw [hji40] at H; exact H) | (simp only [hji40] at H ⊢; exact H)
                 have hji40w : (IntKind.i64.wrap ((wrap64 (x12_1 * a2)) + x13_1)) = ji40 := (zd _).trans hji40
                 by_cases c41 : 0 ≤ (ji40)
                 ·rw [if_pos c41] at H
                  have c41b0 : decide (0 ≤ (ji40)) = true := decide_eq_true c41
                  clear c41
                  by_cases c42 : (ji40) < (x11_4.length : Int)
                  ·rw [if_pos c42] at H
                   have c42b0 : decide ((ji40) < (x11_4.length : Int)) = true := decide_eq_true c42
                   clear c42
                   have H' := Aside0.mk H
                   clear H
                   obtain ⟨Ao43, co43, eo43⟩ := Kd.qb HO_11.out
                   subst eo43
                   have p270 : 0 ≤ ((ji37) : Int) := of_decide_eq_true sqA
                   have q270 : (ji37) < (x11_4.length : Int) := of_decide_eq_true sqA
                   obtain ⟨ad270, e270, hx270_0⟩ := Kd.qh (Kd.zx HO_11.out).2.2 (ji37) p270 q270
                   cases e270
                   replace p270 := eq_true p270
                   replace q270 := eq_true q270
                   have p271 : 0 ≤ ((ji40) : Int) := of_decide_eq_true sqA
                   have q271 : (ji40) < (x11_4.length : Int) := of_decide_eq_true sqA
                   obtain ⟨ad271, e271, hx271_0⟩ := Kd.qh (Kd.zx HO_11.out).2.2 (ji40) p271 q271
                   obtain rfl : ad270 = ad271 := (by injection e271)
                   replace p271 := eq_true p271
                   replace q271 := eq_true q271
                   go_wp2
                   go_loopg [20] k4 (fun kq v20 w' => ∃ (x11_5 : List Int) (x20_5 : Int), v20 = .int .i64 x20_5 ∧ Aside0 (zk.l4 kq a0 a1 a2 a4 x11_5 x12_1 x13_1 x17_4 (rd x11_4 (ji37)) (rd x11_4 (ji40)) x20_5 = some r) ∧ Aside0 (kq ≤ k4) ∧ Aside0 (Kd.R (Kd.int .i64) 3 w' w.heap.size (fun _ => True) (.slice (some ad270) x11_4.length co43) x11_5) ∧ Aside0 (Below w.heap.size w w'))
                   case atStart => exact ⟨(x11_4), (0), (sqD), H', ⟨Nat.le_refl _⟩, ⟨sqR HO_11.out⟩, ⟨sqB⟩⟩
                   case round =>
                    clear H'
                    try clear c1
                    try clear c2
                    try clear p2
                    try clear q2
                    try clear hx2
                    try clear c3
                    try clear p3
                    try clear q3
                    try clear hx3
                    try clear c4
                    try clear c5
                    try clear c6
                    try clear p6
                    try clear c7
                    try clear c10
                    try clear c10b0
                    try clear c12
                    try clear c14
                    try clear c14b0
                    try clear c16
                    try clear c16b0
                    try clear c17
                    try clear c17b0
                    try clear c18
                    try clear c18b0
                    try clear c18b1
                    try clear c21
                    try clear c21b0
                    try clear c22
                    try clear c22b0
                    try clear c24
                    try clear c24b0
                    try clear c25
                    try clear c25b0
                    try clear p26
                    try clear q26
                    try clear hx26
                    try clear c27
                    try clear c27b0
                    try clear p27
                    try clear q27
                    try clear hx27
                    try clear c28
                    try clear c28b0
                    try clear p29
                    try clear q29
                    try clear hx29
                    try clear hf29
                    try clear p30
                    try clear q30
                    try clear hx30
                    try clear hf30
                    try clear c36
                    try clear c36b0
                    try clear c38
                    try clear c38b0
                    try clear c39
                    try clear c39b0
                    try clear c41
                    try clear c41b0
                    try clear c42
                    try clear c42b0
                    try clear hx265_0
                    try clear hx266_0
                    try clear hx267_0
                    try clear hx270_0
                    try clear hx271_0
                    try clear hx29_0
                    try clear hx30_0
                    try clear p2
                    try clear p26
                    try clear p265
                    try clear p266
                    try clear p267
                    try clear p270
                    try clear p271
                    try clear p29
                    try clear p3
                    try clear p30
                    try clear p6
                    try clear q2
                    try clear q26
                    try clear q265
                    try clear q266
                    try clear q267
                    try clear q270
                    try clear q271
                    try clear q29
                    try clear q3
                    try clear q30
                    obtain ⟨x11_5, x20_5, rfl, HA, HK5, HO_11, HB⟩ := hrel
                    have hl11_5 := (Kd.zx HO_11.out).1
                    rw [hl11_5] at HO_11
                    (try simp only [hl11_5])
                    cases gk with
                    | zero => exact absurd HA.out (by simp [zk.l4])
                    | succ k5 =>
                     have H := HA.out
                     clear HA
                     simp only [zk.l4] at H
                     by_cases c44 : x20_5 < a2
                     ·rw [if_pos c44] at H
                      have c44b0 : decide (x20_5 < a2) = true := decide_eq_true c44
                      clear c44
                      obtain ⟨ji45, hji45⟩ : ∃ j_ : Int, (wrap64 ((wrap64 (x17_4 * a2)) + x20_5)) = j_ := ⟨_, rfl⟩
                      replace H : (if 0 ≤ (ji45) then (if (ji45) < (x11_5.length : Int) then (if 0 ≤ (wrap64 ((wrap64 (x12_1 * a2)) + x20_5)) then (if (wrap64 ((wrap64 (x12_1 * a2)) + x20_5)) < (x11_5.length : Int) then (if a0 = 0 then (none) else (zk.l4 k5 a0 a1 a2 a4 (x11_5.set ((ji45) : Int).toNat (Int.tmod (wrap64 ((Int.tmod (wrap64 ((wrap64 ((rd x11_5 (ji45)) * (rd x11_4 (ji40)))) - (wrap64 ((rd x11_5 (wrap64 ((wrap64 (x12_1 * a2)) + x20_5))) * (rd x11_4 (ji37)))))) a0) + a0)) a0)) x12_1 x13_1 x17_4 (rd x11_4 (ji37)) (rd x11_4 (ji40)) (wrap64 (x20_5 + 1)))) else (none)) else (none)) else (none)) else (none)) = some r := by first | (rw [hji45] at H; exact H) | (simp only [hji45] at H ⊢; exact H)
                      have hji45w : (IntKind.i64.wrap ((wrap64 (x17_4 * a2)) + x20_5)) = ji45 := (zd _).trans hji45
                      by_cases c46 : 0 ≤ (ji45)
                      ·rw [if_pos c46] at H
                       have c46b0 : decide (0 ≤ (ji45)) = true := decide_eq_true c46
                       clear c46
                       by_cases c47 : (ji45) < (x11_5.length : Int)
                       ·rw [if_pos c47] at H
                        have c47b0 : decide ((ji45) < (x11_5.length : Int)) = true := decide_eq_true c47
                        (try simp only [hl11_5] at c47b0)
                        clear c47
                        obtain ⟨ji48, hji48⟩ : ∃ j_ : Int, (wrap64 ((wrap64 (x12_1 * a2)) + x20_5)) = j_ := ⟨_, rfl⟩
                        replace H : (if 0 ≤ (ji48) then (if (ji48) < (x11_5.length : Int) then (if a0 = 0 then (none) else (zk.l4 k5 a0 a1 a2 a4 (x11_5.set ((ji45) : Int).toNat (Int.tmod (wrap64 ((Int.tmod (wrap64 ((wrap64 ((rd x11_5 (ji45)) * (rd x11_4 (ji40)))) - (wrap64 ((rd x11_5 (ji48)) * (rd x11_4 (ji37)))))) a0) + a0)) a0)) x12_1 x13_1 x17_4 (rd x11_4 (ji37)) (rd x11_4 (ji40)) (wrap64 (x20_5 + 1)))) else (none)) else (none)) = some r := by first | (rw [hji48] at H; exact H) | (simp only [hji48] at H ⊢; exact H)
                        have hji48w : (IntKind.i64.wrap ((wrap64 (x12_1 * a2)) + x20_5)) = ji48 := (zd _).trans hji48
                        by_cases c49 : 0 ≤ (ji48)
                        ·rw [if_pos c49] at H
                         have c49b0 : decide (0 ≤ (ji48)) = true := decide_eq_true c49
                         clear c49
                         by_cases c50 : (ji48) < (x11_5.length : Int)
                         ·rw [if_pos c50] at H
                          have c50b0 : decide ((ji48) < (x11_5.length : Int)) = true := decide_eq_true c50
                          (try simp only [hl11_5] at c50b0)
                          clear c50
                          by_cases c51 : a0 = 0
                          ·rw [if_pos c51] at H
                           exact absurd H (by simp)
                          ·rw [if_neg c51] at H
                           have c51b0 : (a0 == 0) = false := beq_eq_false_iff_ne.mpr c51
                           have c51b1 : (a0 != 0) = true := bne_iff_ne.mpr c51
                           obtain ⟨y274, hy274⟩ : ∃ y_ : List Int, y_ = (x11_5.set ((ji45) : Int).toNat (Int.tmod (wrap64 ((Int.tmod (wrap64 ((wrap64 ((rd x11_5 (ji45)) * (rd x11_4 (ji40)))) - (wrap64 ((rd x11_5 (ji48)) * (rd x11_4 (ji37)))))) a0) + a0)) a0)) := ⟨_, rfl⟩
                           replace H : (zk.l4 k5 a0 a1 a2 a4 y274 x12_1 x13_1 x17_4 (rd x11_4 (ji37)) (rd x11_4 (ji40)) (wrap64 (x20_5 + 1))) = some r := by first | (rw [hy274]; with_reducible exact H) | (have H2_ := (Option.bind_some _ _).symm.trans H; rw [hy274]; with_reducible exact H2_) | (have H2_ := (Option.bind_some _ _).symm.trans H; with_reducible exact H2_) | with_reducible exact H | (rw [hy274]; exact H) | exact H
                           have Ny274 := Aside0.mk hy274
                           clear hy274
                           have H' := Aside0.mk H
                           clear H
                           try go_wp2
                           have n0_ := Aside0.mk (Kd.q8 HO_11.out)
                           have n1_ := Aside0.mk (zS HB.out)
                           clear HO_11 HB; have HO_11 := n0_; have HB := n1_; clear n0_ n1_
                           have p272 : 0 ≤ ((ji45) : Int) := of_decide_eq_true sqA
                           have q272 : (ji45) < (x11_5.length : Int) := of_decide_eq_true sqA
                           obtain ⟨ad272, e272, hx272_0⟩ := Kd.qh (Kd.zx HO_11.out).2.2 (ji45) p272 q272
                           obtain rfl : ad270 = ad272 := (by injection e272)
                           replace p272 := eq_true p272
                           replace q272 := eq_true q272
                           have p273 : 0 ≤ ((ji48) : Int) := of_decide_eq_true sqA
                           have q273 : (ji48) < (x11_5.length : Int) := of_decide_eq_true sqA
                           obtain ⟨ad273, e273, hx273_0⟩ := Kd.qh (Kd.zx HO_11.out).2.2 (ji48) p273 q273
                           obtain rfl : ad270 = ad273 := (by injection e273)
                           replace p273 := eq_true p273
                           replace q273 := eq_true q273
                           have p52 : 0 ≤ ((ji45) : Int) := of_decide_eq_true sqA
                           have q52 : ((ji45) : Int) < ((x11_5.length : Int) : Int) := of_decide_eq_true sqA
                           obtain ⟨go52, co52, eo52, gb52, gl52, cl52, HG52⟩ := Kd.jT HO_11.out (by omega)
                           (first | cases eo52 | (injection eo52 with ea_ en_ ec_; (first | subst ea_ | (injection ea_ with ea_; subst ea_)); subst ec_; clear en_))
                           (try simp only [add_plain] at *)
                           have GB52 := Aside0.mk gb52
                           have GG52 := Aside0.mk HG52
                           clear gb52 gl52 HG52
                           (first | simp only [add_plain] at hx270_0 | skip)
                           (first | simp only [add_plain] at hx271_0 | skip)
                           (first | simp only [add_plain] at hx272_0 | skip)
                           (first | simp only [add_plain] at hx273_0 | skip)
                           obtain ⟨hx52_0, hf52_0⟩ := Kd.jb 0 HO_11.out ((ji45) : Int) p52 q52
                           replace p52 := eq_true p52
                           replace q52 := eq_true q52
                           have HP54 := Kd.Zg HO_11.out ((ji45) : Int) (Int.tmod (wrap64 ((Int.tmod (wrap64 ((wrap64 ((rd x11_5 (ji45)) * (rd x11_4 (ji40)))) - (wrap64 ((rd x11_5 (ji48)) * (rd x11_4 (ji37)))))) a0) + a0)) a0)
                           rw [← Ny274.out] at HP54
                           have HQ54 := Aside0.mk HP54
                           clear HP54
                           refine jA (n := 35) (S := fun w' => w'.cell? ⟨go52, ((ji45)).toNat, none⟩ = some (.int .i64 (rd x11_5 (ji45))) ∧ w'.cell? ⟨go52, ((ji48)).toNat, none⟩ = some (.int .i64 (rd x11_5 (ji48)))) (ds := [34]) #[false, false, false, false, false, false, false, false, false, false, false, false, false, false, false, false, false, false, false, false, false, false, false, false, false, false, false, false, false, false, false, false, false, false, false] (by kernel_rfl) rfl rfl ⟨hx272_0, hx273_0⟩ (fun hHeld => ?_); refine qM zk.JT zk.Ju (fun HT_ HW_ => ?_)
                           generalize wr.drew = w53 at HO_11 HB GG52 HQ54 hf52_0 hx272_0 hx273_0 hx52_0 hHeld ⊢
                           refine zt (i := 0) (N := some 117) (v := ?_) (a' := ?_) #[true, false, false, false, false, false, false, false, false, false, false, false, false, false, false, false, false, false, false, false, false, false, false, false, false, false, false, false, false, false, false, false, false, false, false] rfl rfl (zl HT_.out (by kernel_rfl)) (fun _ _ _ h => h) (Or.inl ⟨by rfl, ?_⟩) ?_ ?_
                           rotate_left
                           ·intro w'; go_simp; with_reducible rfl
                           rotate_left
                           ·simp only [Act.put, List.setIfInBounds_toArray, List.set_cons_zero, List.set_cons_succ, zd, ze]; rfl
                           refine zt (i := 1) (N := some 118) (v := ?_) (a' := ?_) #[true, true, false, false, false, false, false, false, false, false, false, false, false, false, false, false, false, false, false, false, false, false, false, false, false, false, false, false, false, false, false, false, false, false, false] rfl rfl (zl HT_.out (by kernel_rfl)) (fun _ _ _ h => h) (Or.inl ⟨by rfl, ?_⟩) ?_ ?_
                           rotate_left
                           ·intro w'; go_simp; with_reducible rfl
                           rotate_left
                           ·simp only [Act.put, List.setIfInBounds_toArray, List.set_cons_zero, List.set_cons_succ, zd, ze]; rfl
                           refine zt (i := 2) (N := some 119) (v := ?_) (a' := ?_) #[true, true, true, false, false, false, false, false, false, false, false, false, false, false, false, false, false, false, false, false, false, false, false, false, false, false, false, false, false, false, false, false, false, false, false] rfl rfl (zl HT_.out (by kernel_rfl)) (fun _ _ _ h => h) (Or.inl ⟨by rfl, ?_⟩) ?_ ?_
                           rotate_left
                           ·intro w'; go_simp; with_reducible rfl
                           rotate_left
                           ·simp only [Act.put, List.setIfInBounds_toArray, List.set_cons_zero, List.set_cons_succ, zd, ze]; rfl
                           refine zt (i := 3) (N := some 120) (v := ?_) (a' := ?_) #[true, true, true, true, false, false, false, false, false, false, false, false, false, false, false, false, false, false, false, false, false, false, false, false, false, false, false, false, false, false, false, false, false, false, false] rfl rfl (zl HT_.out (by kernel_rfl)) (fun _ _ _ h => h) (Or.inl ⟨by rfl, ?_⟩) ?_ ?_
                           rotate_left
                           ·intro w'; go_simp; with_reducible rfl
                           rotate_left
                           ·simp only [Act.put, List.setIfInBounds_toArray, List.set_cons_zero, List.set_cons_succ, zd, ze]; rfl
                           refine zt (i := 4) (N := some 121) (v := ?_) (a' := ?_) #[true, true, true, true, true, false, false, false, false, false, false, false, false, false, false, false, false, false, false, false, false, false, false, false, false, false, false, false, false, false, false, false, false, false, false] rfl rfl (zl HT_.out (by kernel_rfl)) (fun _ _ _ h => h) (Or.inl ⟨by rfl, ?_⟩) ?_ ?_
                           rotate_left
                           ·intro w'; go_simp; with_reducible rfl
                           rotate_left
                           ·simp only [Act.put, List.setIfInBounds_toArray, List.set_cons_zero, List.set_cons_succ, zd, ze]; rfl
                           refine zt (i := 5) (N := some 122) (v := ?_) (a' := ?_) #[true, true, true, true, true, true, false, false, false, false, false, false, false, false, false, false, false, false, false, false, false, false, false, false, false, false, false, false, false, false, false, false, false, false, false] rfl rfl (zl HT_.out (by kernel_rfl)) (fun _ _ _ h => h) (Or.inl ⟨by rfl, ?_⟩) ?_ ?_
                           rotate_left
                           ·intro w'; go_simp; with_reducible rfl
                           rotate_left
                           ·simp only [Act.put, List.setIfInBounds_toArray, List.set_cons_zero, List.set_cons_succ, zd, ze]; rfl
                           refine zt (i := 6) (N := some 123) (v := ?_) (a' := ?_) #[true, true, true, true, true, true, true, false, false, false, false, false, false, false, false, false, false, false, false, false, false, false, false, false, false, false, false, false, false, false, false, false, false, false, false] rfl rfl (zl HT_.out (by kernel_rfl)) (fun _ _ _ h => h) (Or.inl ⟨by rfl, ?_⟩) ?_ ?_
                           rotate_left
                           ·intro w'; go_simp; with_reducible rfl
                           rotate_left
                           ·simp only [Act.put, List.setIfInBounds_toArray, List.set_cons_zero, List.set_cons_succ, zd, ze]; rfl
                           refine zt (i := 7) (N := some 124) (v := ?_) (a' := ?_) #[true, true, true, true, true, true, true, true, false, false, false, false, false, false, false, false, false, false, false, false, false, false, false, false, false, false, false, false, false, false, false, false, false, false, false] rfl rfl (zl HT_.out (by kernel_rfl)) (fun _ _ _ h => h) (Or.inl ⟨by rfl, ?_⟩) ?_ ?_
                           rotate_left
                           ·intro w'; go_simp; with_reducible rfl
                           rotate_left
                           ·simp only [Act.put, List.setIfInBounds_toArray, List.set_cons_zero, List.set_cons_succ, zd, ze]; rfl
                           refine zt (i := 8) (N := some 125) (v := ?_) (a' := ?_) #[true, true, true, true, true, true, true, true, true, false, false, false, false, false, false, false, false, false, false, false, false, false, false, false, false, false, false, false, false, false, false, false, false, false, false] rfl rfl (zl HT_.out (by kernel_rfl)) (fun _ _ _ h => h) (Or.inl ⟨by rfl, ?_⟩) ?_ ?_
                           rotate_left
                           ·intro w'; go_simp; with_reducible rfl
                           rotate_left
                           ·simp only [Act.put, List.setIfInBounds_toArray, List.set_cons_zero, List.set_cons_succ, zd, ze]; rfl
                           refine zt (i := 9) (N := some 126) (v := ?_) (a' := ?_) #[true, true, true, true, true, true, true, true, true, true, false, false, false, false, false, false, false, false, false, false, false, false, false, false, false, false, false, false, false, false, false, false, false, false, false] rfl rfl (zl HT_.out (by kernel_rfl)) (fun _ _ _ h => h) (Or.inl ⟨by rfl, ?_⟩) ?_ ?_
                           rotate_left
                           ·intro w'; go_simp; with_reducible rfl
                           rotate_left
                           ·simp only [Act.put, List.setIfInBounds_toArray, List.set_cons_zero, List.set_cons_succ, zd, ze]; rfl
                           refine zt (i := 10) (N := some 127) (v := ?_) (a' := ?_) #[true, true, true, true, true, true, true, true, true, true, true, false, false, false, false, false, false, false, false, false, false, false, false, false, false, false, false, false, false, false, false, false, false, false, false] rfl rfl (zl HT_.out (by kernel_rfl)) (fun _ _ _ h => h) (Or.inl ⟨by rfl, ?_⟩) ?_ ?_
                           rotate_left
                           ·intro w'; go_simp; with_reducible rfl
                           rotate_left
                           ·simp only [Act.put, List.setIfInBounds_toArray, List.set_cons_zero, List.set_cons_succ, zd, ze]; rfl
                           refine zt (i := 11) (N := some 128) (v := ?_) (a' := ?_) #[true, true, true, true, true, true, true, true, true, true, true, true, false, false, false, false, false, false, false, false, false, false, false, false, false, false, false, false, false, false, false, false, false, false, false] rfl rfl (zl HT_.out (by kernel_rfl)) (fun _ _ _ h => h) (Or.inl ⟨by rfl, ?_⟩) ?_ ?_
                           rotate_left
                           ·intro w'; go_simp; with_reducible rfl
                           rotate_left
                           ·simp only [Act.put, List.setIfInBounds_toArray, List.set_cons_zero, List.set_cons_succ, zd, ze]; rfl
                           refine zt (i := 12) (N := some 129) (v := ?_) (a' := ?_) #[true, true, true, true, true, true, true, true, true, true, true, true, true, false, false, false, false, false, false, false, false, false, false, false, false, false, false, false, false, false, false, false, false, false, false] rfl rfl (zl HT_.out (by kernel_rfl)) (fun _ _ _ h => h) (Or.inl ⟨by rfl, ?_⟩) ?_ ?_
                           rotate_left
                           ·intro w'; go_simp; with_reducible rfl
                           rotate_left
                           ·simp only [Act.put, List.setIfInBounds_toArray, List.set_cons_zero, List.set_cons_succ, zd, ze]; rfl
                           refine zt (i := 14) (N := some 131) (v := ?_) (a' := ?_) #[true, true, true, true, true, true, true, true, true, true, true, true, true, false, true, false, false, false, false, false, false, false, false, false, false, false, false, false, false, false, false, false, false, false, false] rfl rfl (zl HT_.out (by kernel_rfl)) (fun _ _ _ h => h) (Or.inl ⟨by rfl, ?_⟩) ?_ ?_
                           rotate_left
                           ·intro w'; go_simp; with_reducible rfl
                           rotate_left
                           ·simp only [Act.put, List.setIfInBounds_toArray, List.set_cons_zero, List.set_cons_succ, zd, ze]; rfl
                           refine zt (i := 16) (N := some 133) (v := ?_) (a' := ?_) #[true, true, true, true, true, true, true, true, true, true, true, true, true, false, true, false, true, false, false, false, false, false, false, false, false, false, false, false, false, false, false, false, false, false, false] rfl rfl (zl HT_.out (by kernel_rfl)) (fun _ _ _ h => h) (Or.inl ⟨by rfl, ?_⟩) ?_ ?_
                           rotate_left
                           ·intro w'; go_simp; with_reducible rfl
                           rotate_left
                           ·simp only [Act.put, List.setIfInBounds_toArray, List.set_cons_zero, List.set_cons_succ, zd, ze]; rfl
                           refine zt (i := 17) (N := some 134) (v := ?_) (a' := ?_) #[true, true, true, true, true, true, true, true, true, true, true, true, true, false, true, false, true, true, false, false, false, false, false, false, false, false, false, false, false, false, false, false, false, false, false] rfl rfl (zl HT_.out (by kernel_rfl)) (fun _ _ _ h => h) (Or.inl ⟨by rfl, ?_⟩) ?_ ?_
                           rotate_left
                           ·intro w'; go_simp; with_reducible rfl
                           rotate_left
                           ·simp only [Act.put, List.setIfInBounds_toArray, List.set_cons_zero, List.set_cons_succ, zd, ze]; rfl
                           refine zt (i := 18) (N := some 135) (v := ?_) (a' := ?_) #[true, true, true, true, true, true, true, true, true, true, true, true, true, false, true, false, true, true, true, false, false, false, false, false, false, false, false, false, false, false, false, false, false, false, false] rfl rfl (zl HT_.out (by kernel_rfl)) (fun _ _ _ h => h) (Or.inl ⟨by rfl, ?_⟩) ?_ ?_
                           rotate_left
                           ·intro w'; go_simp; with_reducible rfl
                           rotate_left
                           ·simp only [Act.put, List.setIfInBounds_toArray, List.set_cons_zero, List.set_cons_succ, zd, ze]; rfl
                           refine zt (i := 19) (N := some 136) (v := ?_) (a' := ?_) #[true, true, true, true, true, true, true, true, true, true, true, true, true, false, true, false, true, true, true, true, false, false, false, false, false, false, false, false, false, false, false, false, false, false, false] rfl rfl (zl HT_.out (by kernel_rfl)) (fun _ _ _ h => h) (Or.inl ⟨by rfl, ?_⟩) ?_ ?_
                           rotate_left
                           ·intro w'; go_simp; with_reducible rfl
                           rotate_left
                           ·simp only [Act.put, List.setIfInBounds_toArray, List.set_cons_zero, List.set_cons_succ, zd, ze]; rfl
                           refine zt (i := 20) (N := some 137) (v := ?_) (a' := ?_) #[true, true, true, true, true, true, true, true, true, true, true, true, true, false, true, false, true, true, true, true, true, false, false, false, false, false, false, false, false, false, false, false, false, false, false] rfl rfl (zl HT_.out (by kernel_rfl)) (fun _ _ _ h => h) (Or.inl ⟨by rfl, ?_⟩) ?_ ?_
                           rotate_left
                           ·intro w'; go_simp; with_reducible rfl
                           rotate_left
                           ·simp only [Act.put, List.setIfInBounds_toArray, List.set_cons_zero, List.set_cons_succ, zd, ze]; rfl
                           refine zt (i := 21) (N := some 138) (v := ?_) (a' := ?_) #[true, true, true, true, true, true, true, true, true, true, true, true, true, false, true, false, true, true, true, true, true, true, false, false, false, false, false, false, false, false, false, false, false, false, false] rfl rfl (zl HT_.out (by kernel_rfl)) (fun _ _ _ h => h) (Or.inl ⟨by rfl, ?_⟩) ?_ ?_
                           rotate_left
                           ·intro w'; go_simp; with_reducible rfl
                           rotate_left
                           ·simp only [Act.put, List.setIfInBounds_toArray, List.set_cons_zero, List.set_cons_succ, zd, ze]; rfl
                           refine zt (i := 22) (N := some 139) (v := ?_) (a' := ?_) #[true, true, true, true, true, true, true, true, true, true, true, true, true, false, true, false, true, true, true, true, true, true, true, false, false, false, false, false, false, false, false, false, false, false, false] rfl rfl (zl HT_.out (by kernel_rfl)) (fun _ _ _ h => h) (Or.inl ⟨by rfl, ?_⟩) ?_ ?_
                           rotate_left
                           ·intro w'; go_simp; with_reducible rfl
                           rotate_left
                           ·simp only [Act.put, List.setIfInBounds_toArray, List.set_cons_zero, List.set_cons_succ, zd, ze]; rfl
                           refine zt (i := 24) (N := some 141) (v := ?_) (a' := ?_) #[true, true, true, true, true, true, true, true, true, true, true, true, true, false, true, false, true, true, true, true, true, true, true, false, true, false, false, false, false, false, false, false, false, false, false] rfl rfl (zl HT_.out (by kernel_rfl)) (fun _ _ _ h => h) (Or.inl ⟨by rfl, ?_⟩) ?_ ?_
                           rotate_left
                           ·intro w'; go_simp; with_reducible rfl
                           rotate_left
                           ·simp only [Act.put, List.setIfInBounds_toArray, List.set_cons_zero, List.set_cons_succ, zd, ze]; rfl
                           refine zt (i := 27) (N := some 144) (v := ?_) (a' := ?_) #[true, true, true, true, true, true, true, true, true, true, true, true, true, false, true, false, true, true, true, true, true, true, true, false, true, false, false, true, false, false, false, false, false, false, false] rfl rfl (zl HT_.out (by kernel_rfl)) (fun _ _ _ h => h) (Or.inl ⟨by rfl, ?_⟩) ?_ ?_
                           rotate_left
                           ·intro w'; go_simp; with_reducible rfl
                           rotate_left
                           ·simp only [Act.put, List.setIfInBounds_toArray, List.set_cons_zero, List.set_cons_succ, zd, ze]; rfl
                           refine zt (i := 29) (N := some 146) (v := ?_) (a' := ?_) #[true, true, true, true, true, true, true, true, true, true, true, true, true, false, true, false, true, true, true, true, true, true, true, false, true, false, false, true, false, true, false, false, false, false, false] rfl rfl (zl HT_.out (by kernel_rfl)) (fun _ _ _ h => h) (Or.inl ⟨by rfl, ?_⟩) ?_ ?_
                           rotate_left
                           ·intro w'; go_simp; with_reducible rfl
                           rotate_left
                           ·simp only [Act.put, List.setIfInBounds_toArray, List.set_cons_zero, List.set_cons_succ, zd, ze]; rfl
                           refine zt (i := 31) (N := some 148) (v := ?_) (a' := ?_) #[true, true, true, true, true, true, true, true, true, true, true, true, true, false, true, false, true, true, true, true, true, true, true, false, true, false, false, true, false, true, false, true, false, false, false] rfl rfl (zl HT_.out (by kernel_rfl)) (fun _ _ _ h => h) (Or.inl ⟨by rfl, ?_⟩) ?_ ?_
                           rotate_left
                           ·intro w'; go_simp; with_reducible rfl
                           rotate_left
                           ·simp only [Act.put, List.setIfInBounds_toArray, List.set_cons_zero, List.set_cons_succ, zd, ze]; rfl
                           refine qe (i := 13) (N := some 130) (v := ?_) (a' := ?_) #[true, true, true, true, true, true, true, true, true, true, true, true, true, true, true, false, true, true, true, true, true, true, true, false, true, false, false, true, false, true, false, true, false, false, false] rfl rfl (zG HT_.out HW_.out (by kernel_rfl)) (fun _ _ _ h => h) (Or.inl ⟨by rfl, ?_⟩) hHeld ?_ ?_
                           rotate_left
                           ·rintro w' ⟨s0, s1⟩; go_simp; with_reducible rfl
                           rotate_left
                           ·simp only [Act.put, List.setIfInBounds_toArray, List.set_cons_zero, List.set_cons_succ, zd, ze]; rfl
                           refine zt (i := 15) (N := some 132) (v := ?_) (a' := ?_) #[true, true, true, true, true, true, true, true, true, true, true, true, true, true, true, true, true, true, true, true, true, true, true, false, true, false, false, true, false, true, false, true, false, false, false] rfl rfl (zl HT_.out (by kernel_rfl)) (fun _ _ _ h => h) (Or.inl ⟨by rfl, ?_⟩) ?_ ?_
                           rotate_left
                           ·intro w'; go_simp; with_reducible rfl
                           rotate_left
                           ·simp only [Act.put, List.setIfInBounds_toArray, List.set_cons_zero, List.set_cons_succ, zd, ze]; rfl
                           refine qe (i := 23) (N := some 140) (v := ?_) (a' := ?_) #[true, true, true, true, true, true, true, true, true, true, true, true, true, true, true, true, true, true, true, true, true, true, true, true, true, false, false, true, false, true, false, true, false, false, false] rfl rfl (zG HT_.out HW_.out (by kernel_rfl)) (fun _ _ _ h => h) (Or.inl ⟨by rfl, ?_⟩) hHeld ?_ ?_
                           rotate_left
                           ·rintro w' ⟨s0, s1⟩; go_simp; with_reducible rfl
                           rotate_left
                           ·simp only [Act.put, List.setIfInBounds_toArray, List.set_cons_zero, List.set_cons_succ, zd, ze]; rfl
                           refine zt (i := 25) (N := some 142) (v := ?_) (a' := ?_) #[true, true, true, true, true, true, true, true, true, true, true, true, true, true, true, true, true, true, true, true, true, true, true, true, true, true, false, true, false, true, false, true, false, false, false] rfl rfl (zl HT_.out (by kernel_rfl)) (fun _ _ _ h => h) (Or.inl ⟨by rfl, ?_⟩) ?_ ?_
                           rotate_left
                           ·intro w'; go_simp; with_reducible rfl
                           rotate_left
                           ·simp only [Act.put, List.setIfInBounds_toArray, List.set_cons_zero, List.set_cons_succ, zd, ze]; rfl
                           refine zt (i := 26) (N := some 143) (v := ?_) (a' := ?_) #[true, true, true, true, true, true, true, true, true, true, true, true, true, true, true, true, true, true, true, true, true, true, true, true, true, true, true, true, false, true, false, true, false, false, false] rfl rfl (zl HT_.out (by kernel_rfl)) (fun _ _ _ h => h) (Or.inl ⟨by rfl, ?_⟩) ?_ ?_
                           rotate_left
                           ·intro w'; go_simp; with_reducible rfl
                           rotate_left
                           ·simp only [Act.put, List.setIfInBounds_toArray, List.set_cons_zero, List.set_cons_succ, zd, ze]; rfl
                           refine zt (i := 28) (N := some 145) (v := ?_) (a' := ?_) #[true, true, true, true, true, true, true, true, true, true, true, true, true, true, true, true, true, true, true, true, true, true, true, true, true, true, true, true, true, true, false, true, false, false, false] rfl rfl (zl HT_.out (by kernel_rfl)) (fun _ _ _ h => h) (Or.inl ⟨by rfl, ?_⟩) ?_ ?_
                           rotate_left
                           ·intro w'; go_simp; with_reducible rfl
                           rotate_left
                           ·simp only [Act.put, List.setIfInBounds_toArray, List.set_cons_zero, List.set_cons_succ, zd, ze]; rfl
                           refine zt (i := 30) (N := some 147) (v := ?_) (a' := ?_) #[true, true, true, true, true, true, true, true, true, true, true, true, true, true, true, true, true, true, true, true, true, true, true, true, true, true, true, true, true, true, true, true, false, false, false] rfl rfl (zl HT_.out (by kernel_rfl)) (fun _ _ _ h => h) (Or.inl ⟨by rfl, ?_⟩) ?_ ?_
                           rotate_left
                           ·intro w'; go_simp; with_reducible rfl
                           rotate_left
                           ·simp only [Act.put, List.setIfInBounds_toArray, List.set_cons_zero, List.set_cons_succ, zd, ze]; rfl
                           refine zt (i := 32) (N := some 149) (v := ?_) (a' := ?_) #[true, true, true, true, true, true, true, true, true, true, true, true, true, true, true, true, true, true, true, true, true, true, true, true, true, true, true, true, true, true, true, true, true, false, false] rfl rfl (zl HT_.out (by kernel_rfl)) (fun _ _ _ h => h) (Or.inl ⟨by rfl, ?_⟩) ?_ ?_
                           rotate_left
                           ·intro w'; go_simp; with_reducible rfl
                           rotate_left
                           ·simp only [Act.put, List.setIfInBounds_toArray, List.set_cons_zero, List.set_cons_succ, zd, ze]; rfl
                           refine zt (i := 33) (N := some 150) (v := ?_) (a' := ?_) #[true, true, true, true, true, true, true, true, true, true, true, true, true, true, true, true, true, true, true, true, true, true, true, true, true, true, true, true, true, true, true, true, true, true, false] rfl rfl (zl HT_.out (by kernel_rfl)) (fun _ _ _ h => h) (Or.inl ⟨by rfl, ?_⟩) ?_ ?_
                           rotate_left
                           ·intro w'; go_simp; with_reducible rfl
                           rotate_left
                           ·simp only [Act.put, List.setIfInBounds_toArray, List.set_cons_zero, List.set_cons_succ, zd, ze]; rfl
                           refine vQ (i := 34) (N := none) #[true, true, true, true, true, true, true, true, true, true, true, true, true, true, true, true, true, true, true, true, true, true, true, true, true, true, true, true, true, true, true, true, true, true, true] rfl rfl (q4 HT_.out (by kernel_rfl)) (by decide) (fun K hK => ?_)
                           refine vA (w1 := ?_) (by rfl) rfl ?_ ?_
                           rotate_left
                           ·go_simp
                            rfl
                           refine hK.out _ _ ?_
                           clear hK K
                           refine vl (jk HT_.out (by kernel_rfl)) ?_
                           try go_wp2
                           (try simp only [← hl11_5])
                           go_roundg k5
                           case measure => have := HK1.out; have := HJ12.out; have := HK3.out; have := HK4.out; have := HK5.out; omega
                           case rel => exact ⟨(y274), (wrap64 (x20_5 + 1)), (sqD), H', ⟨by have := HK1.out; have := HJ12.out; have := HK3.out; have := HK4.out; have := HK5.out; omega⟩, ⟨by (try simp only [hl11_5]); refine sqR ?_; exact HQ54.out⟩, ⟨by repeat (first | (with_reducible first | exact HB.out | apply z6 | apply zZ | apply zS | refine zM ?_ GB52.out) | exact HB.out)⟩⟩
                         ·rw [if_neg c50] at H
                          exact absurd H (by simp)
                        ·rw [if_neg c49] at H
                         exact absurd H (by simp)
                       ·rw [if_neg c47] at H
                        exact absurd H (by simp)
                      ·rw [if_neg c46] at H
                       exact absurd H (by simp)
                     ·rw [if_neg c44] at H
                      have c44b0 : decide (x20_5 < a2) = false := decide_eq_false c44
                      clear c44
                      have H' := Aside0.mk H
                      clear H
                      go_wp2
                      (try simp only [← hl11_5])
                      go_roundg k5
                      case measure => have := HK1.out; have := HJ12.out; have := HK3.out; have := HK4.out; have := HK5.out; omega
                      case rel => exact ⟨(x11_5), (wrap64 (x17_4 + 1)), (sqD), H', ⟨by have := HK1.out; have := HJ12.out; have := HK3.out; have := HK4.out; have := HK5.out; omega⟩, ⟨by (try simp only [hl11_5]); refine sqR ?_; exact HO_11.out⟩, ⟨sqB⟩⟩
                  ·rw [if_neg c42] at H
                   exact absurd H (by simp)
                 ·rw [if_neg c41] at H
                  exact absurd H (by simp)
                ·rw [if_neg c39] at H
                 exact absurd H (by simp)
               ·rw [if_neg c38] at H
                exact absurd H (by simp)
              ·rw [if_neg c36] at H
               have c36b0 : decide (x17_4 < a1) = false := decide_eq_false c36
               clear c36
               have H' := Aside0.mk H
               clear H
               go_wp2
               go_roundg k4
               case measure => have := HK1.out; have := HJ12.out; have := HK3.out; have := HK4.out; omega
               case rel => exact ⟨(x11_4), (wrap64 (x12_1 + 1)), (wrap64 (x13_1 + 1)), (sqD), (sqD), H', ⟨by have := HK1.out; have := HJ12.out; have := HK3.out; have := HK4.out; omega⟩, ⟨sqR HO_11.out⟩, ⟨sqB⟩⟩
     ·replace c12 := Bool.eq_false_iff.mpr c12
      subst c12
      have H1 : (zk.l0 k1 a0 a1 a2 a4 x11_1 x12_1 (wrap64 (x13_1 + 1))) = some r := by rw [if_neg (show ¬ (false = true) by decide)] at H; exact H
      clear H
      have H := H1
      clear H1
      have H' := Aside0.mk H
      clear H
      go_wp2_with (first | ((with_reducible refine zo (f := 70) rfl ?_); refine zT (some 31) rfl rfl Try.func70 (by kernel_rfl) rfl #[.int .i64 a4, .int .i64 x13_1] rfl sqM ?_; (with_reducible refine (jK.calls a4 x13_1 false _ A11.out).mono ?_); rintro e w' ⟨rfl, ⟨nd, rfl⟩⟩; refine ⟨_, rfl, ?_⟩))
      go_roundg k1
      case measure => have := HK1.out; omega
      case rel => exact ⟨(x11_1), (x12_1), (wrap64 (x13_1 + 1)), (sqD), (sqD), H', ⟨by have := HK1.out; omega⟩, ⟨sqR HO_11.out⟩, ⟨sqB⟩⟩
    ·rw [if_neg c10] at H
     have c10b0 : decide (x13_1 < a2) = false := decide_eq_false c10
     clear c10
     obtain rfl := Option.some.inj H
     go_wp2
     go_ret
     exact ⟨sqE, sqB⟩
 ·rw [if_neg c6] at H
  exact absurd H (by simp)

def vm.f (k : Nat) (a0_0 : Int) (a0_1 : Int) (a0_2 : Int) (l0_3 : List Int) (a1 : Int) : Option (Int) := (zm.f k a0_0 a0_1 a0_2 l0_3).bind fun t276 => (if t276 = true then ((q6.f a0_2 a1).bind fun t277 => (if t277 = true then ((zk.f k a0_0 a0_1 a0_2 l0_3 a1).bind fun t278 => (some t278)) else (some (-1)))) else (some (-1)))
theorem vm.calls (k : Nat) (a0_0 : Int) (a0_1 : Int) (a0_2 : Int) (A0_3 : Option Addr) (c0_3 : Nat) (l0_3 : List Int) (a1 : Int) (r : Int) (w : World) (hr0_3 : Kd.C (Kd.int .i64) w A0_3 l0_3.length l0_3) (hc0_3 : l0_3.length ≤ c0_3) (h : vm.f k a0_0 a0_1 a0_2 l0_3 a1 = some r) :
  Calls Try.prog 30 #[.agg #[.int .i64 a0_0, .int .i64 a0_1, .int .i64 a0_2, .slice A0_3 l0_3.length c0_3], .int .i64 a1] w fun e w' => e = .returned (.int .i64 r) ∧ Below w.heap.size w w' := by
 have hu27 := Try.underlying27
 have HR0_3 := Aside0.mk hr0_3
 have HC0_3 := Aside0.mk hc0_3
 clear hr0_3 hc0_3
 have HB := Aside0.mk (Below.refl w.heap.size w)
 have H : ((zm.f k a0_0 a0_1 a0_2 l0_3).bind fun t276 => (if t276 = true then ((q6.f a0_2 a1).bind fun t277 => (if t277 = true then ((zk.f k a0_0 a0_1 a0_2 l0_3 a1).bind fun t278 => (some t278)) else (some (-1)))) else (some (-1)))) = some r := h
 clear h
 replace H := Option.bind_eq_some_iff.mp H
 obtain ⟨t276, A30, H⟩ := H
 replace H : (if t276 = true then ((q6.f a0_2 a1).bind fun t277 => (if t277 = true then ((zk.f k a0_0 a0_1 a0_2 l0_3 a1).bind fun t278 => (some t278)) else (some (-1)))) else (some (-1))) = some r := H
 have A3 := Aside0.mk A30
 clear A30
 by_cases c4 : t276 = true
 ·subst c4
  have H1 : ((q6.f a0_2 a1).bind fun t277 => (if t277 = true then ((zk.f k a0_0 a0_1 a0_2 l0_3 a1).bind fun t278 => (some t278)) else (some (-1)))) = some r := by rw [if_pos rfl] at H; exact H
  clear H
  have H := H1
  clear H1
  replace H := Option.bind_eq_some_iff.mp H
  obtain ⟨t277, A50, H⟩ := H
  replace H : (if t277 = true then ((zk.f k a0_0 a0_1 a0_2 l0_3 a1).bind fun t278 => (some t278)) else (some (-1))) = some r := H
  have A5 := Aside0.mk A50
  clear A50
  by_cases c6 : t277 = true
  ·subst c6
   have H1 : ((zk.f k a0_0 a0_1 a0_2 l0_3 a1).bind fun t278 => (some t278)) = some r := by rw [if_pos rfl] at H; exact H
   clear H
   have H := H1
   clear H1
   replace H := Option.bind_eq_some_iff.mp H
   obtain ⟨t278, A70, H⟩ := H
   replace H : (some t278) = some r := H
   have A7 := Aside0.mk A70
   clear A70
   obtain rfl := Option.some.inj H
   go_enter Try.func30, Try.ntmps30
   go_wp2_with (first | ((with_reducible refine zA (N := 2) rfl ?_); refine zz ?hg (N := 2) ?hd (cs := #[.int .i64 a0_0, .int .i64 a0_1, .int .i64 a0_2, .slice A0_3 l0_3.length c0_3]) (t := 27) ?hr ?_; (case hd => rfl); (case hg => rfl); (case hr => exact sqG); intro gb275 hg w8 hbox hb; have n0_ := Aside0.mk (zj sqB hb); have n1_ := Aside0.mk (hbox); have n2_ := Aside0.mk ((sqS hg : w.heap.size ≤ gb275)); have n3_ := Aside0.mk ((sqS hg : w.heap.size ≤ gb275)); clear HB; have HB := n0_; have BK275 := n1_; have GW275 := n2_; have GE275 := n3_; clear n0_ n1_ n2_ n3_; clear hb hbox hg; have hcz9_0 : w8.cell? ⟨gb275, 0, none⟩ = some (.int .i64 a0_0) := (zb BK275.out 0).trans rfl; have hcz9_1 : w8.cell? ⟨gb275, 1, none⟩ = some (.int .i64 a0_1) := (zb BK275.out 1).trans rfl; have hcz9_2 : w8.cell? ⟨gb275, 2, none⟩ = some (.int .i64 a0_2) := (zb BK275.out 2).trans rfl; have hcz9_3 : w8.cell? ⟨gb275, 3, none⟩ = some (.slice A0_3 l0_3.length c0_3) := (zb BK275.out 3).trans rfl; have hfz9_0 := za BK275.out 0; have hfz9_1 := za BK275.out 1; have hfz9_2 := za BK275.out 2; have hfz9_3 := za BK275.out 3) | ((with_reducible refine zo (f := 37) rfl ?_); refine zT (some 6) rfl rfl Try.func37 (by kernel_rfl) rfl #[.agg #[.int .i64 a0_0, .int .i64 a0_1, .int .i64 a0_2, .slice A0_3 l0_3.length c0_3]] rfl sqM ?_; (with_reducible refine (zm.calls k a0_0 a0_1 a0_2 _ _ l0_3 true _ ?side1 ?side2 A3.out).mono ?_); (case side1 => exact sqC (Kd.qc HR0_3.out HB.out)); (case side2 => exact HC0_3.out); rintro e w10 ⟨rfl, hb⟩; refine ⟨_, rfl, ?_⟩; have n0_ := Aside0.mk (zh (g := gb275) (o := .cells #[.int .i64 a0_0, .int .i64 a0_1, .int .i64 a0_2, .slice A0_3 l0_3.length c0_3] 27 (0, 0)) (sqK BK275.out) hb); have n1_ := Aside0.mk (zj sqB hb); clear BK275; clear HB; have BK275 := n0_; have HB := n1_; clear n0_ n1_; (try clear hb); (try clear hb2); (try clear hk); (try clear hi); have hcz11_0 : w10.cell? ⟨gb275, 0, none⟩ = some (.int .i64 a0_0) := (zb BK275.out 0).trans rfl; have hcz11_1 : w10.cell? ⟨gb275, 1, none⟩ = some (.int .i64 a0_1) := (zb BK275.out 1).trans rfl; have hcz11_2 : w10.cell? ⟨gb275, 2, none⟩ = some (.int .i64 a0_2) := (zb BK275.out 2).trans rfl; have hcz11_3 : w10.cell? ⟨gb275, 3, none⟩ = some (.slice A0_3 l0_3.length c0_3) := (zb BK275.out 3).trans rfl; have hfz11_0 := za BK275.out 0; have hfz11_1 := za BK275.out 1; have hfz11_2 := za BK275.out 2; have hfz11_3 := za BK275.out 3) | (go_at_call 49; (try simp only [zd, ze]); (with_reducible refine (q6.calls a0_2 a1 true _ A5.out).mono ?_); rintro e w' ⟨rfl, ⟨nd, rfl⟩⟩) | ((with_reducible refine zo (f := 57) rfl ?_); refine zT (some 24) rfl rfl Try.func57 (by kernel_rfl) rfl #[.int .i64 a0_0, .int .i64 a0_1, .int .i64 a0_2, .slice A0_3 l0_3.length c0_3, .int .i64 a1] rfl sqM ?_; (with_reducible refine (zk.calls k a0_0 a0_1 a0_2 _ _ l0_3 a1 t278 _ ?side1 ?side2 A7.out).mono ?_); (case side1 => exact sqC (Kd.qc HR0_3.out sqB)); (case side2 => exact HC0_3.out); rintro e w12 ⟨rfl, hb⟩; refine ⟨_, rfl, ?_⟩; have n0_ := Aside0.mk (zh (g := gb275) (o := .cells #[.int .i64 a0_0, .int .i64 a0_1, .int .i64 a0_2, .slice A0_3 l0_3.length c0_3] 27 (0, 0)) (sqK BK275.out) hb); have n1_ := Aside0.mk (zj sqB hb); clear BK275; clear HB; have BK275 := n0_; have HB := n1_; clear n0_ n1_; (try clear hb); (try clear hb2); (try clear hk); (try clear hi)))
   go_ret
   exact ⟨sqE, sqB⟩
  ·replace c6 := Bool.eq_false_iff.mpr c6
   subst c6
   have H1 : (some (-1)) = some r := by rw [if_neg (show ¬ (false = true) by decide)] at H; exact H
   clear H
   have H := H1
   clear H1
   obtain rfl := Option.some.inj H
   go_enter Try.func30, Try.ntmps30
   go_wp2_with (first | ((with_reducible refine zA (N := 2) rfl ?_); refine zz ?hg (N := 2) ?hd (cs := #[.int .i64 a0_0, .int .i64 a0_1, .int .i64 a0_2, .slice A0_3 l0_3.length c0_3]) (t := 27) ?hr ?_; (case hd => rfl); (case hg => rfl); (case hr => exact sqG); intro gb275 hg w13 hbox hb; have n0_ := Aside0.mk (zj sqB hb); have n1_ := Aside0.mk (hbox); have n2_ := Aside0.mk ((sqS hg : w.heap.size ≤ gb275)); have n3_ := Aside0.mk ((sqS hg : w.heap.size ≤ gb275)); clear HB; have HB := n0_; have BK275 := n1_; have GW275 := n2_; have GE275 := n3_; clear n0_ n1_ n2_ n3_; clear hb hbox hg; have hcz14_0 : w13.cell? ⟨gb275, 0, none⟩ = some (.int .i64 a0_0) := (zb BK275.out 0).trans rfl; have hcz14_1 : w13.cell? ⟨gb275, 1, none⟩ = some (.int .i64 a0_1) := (zb BK275.out 1).trans rfl; have hcz14_2 : w13.cell? ⟨gb275, 2, none⟩ = some (.int .i64 a0_2) := (zb BK275.out 2).trans rfl; have hcz14_3 : w13.cell? ⟨gb275, 3, none⟩ = some (.slice A0_3 l0_3.length c0_3) := (zb BK275.out 3).trans rfl; have hfz14_0 := za BK275.out 0; have hfz14_1 := za BK275.out 1; have hfz14_2 := za BK275.out 2; have hfz14_3 := za BK275.out 3) | ((with_reducible refine zo (f := 37) rfl ?_); refine zT (some 6) rfl rfl Try.func37 (by kernel_rfl) rfl #[.agg #[.int .i64 a0_0, .int .i64 a0_1, .int .i64 a0_2, .slice A0_3 l0_3.length c0_3]] rfl sqM ?_; (with_reducible refine (zm.calls k a0_0 a0_1 a0_2 _ _ l0_3 true _ ?side1 ?side2 A3.out).mono ?_); (case side1 => exact sqC (Kd.qc HR0_3.out HB.out)); (case side2 => exact HC0_3.out); rintro e w15 ⟨rfl, hb⟩; refine ⟨_, rfl, ?_⟩; have n0_ := Aside0.mk (zh (g := gb275) (o := .cells #[.int .i64 a0_0, .int .i64 a0_1, .int .i64 a0_2, .slice A0_3 l0_3.length c0_3] 27 (0, 0)) (sqK BK275.out) hb); have n1_ := Aside0.mk (zj sqB hb); clear BK275; clear HB; have BK275 := n0_; have HB := n1_; clear n0_ n1_; (try clear hb); (try clear hb2); (try clear hk); (try clear hi); have hcz16_0 : w15.cell? ⟨gb275, 0, none⟩ = some (.int .i64 a0_0) := (zb BK275.out 0).trans rfl; have hcz16_1 : w15.cell? ⟨gb275, 1, none⟩ = some (.int .i64 a0_1) := (zb BK275.out 1).trans rfl; have hcz16_2 : w15.cell? ⟨gb275, 2, none⟩ = some (.int .i64 a0_2) := (zb BK275.out 2).trans rfl; have hcz16_3 : w15.cell? ⟨gb275, 3, none⟩ = some (.slice A0_3 l0_3.length c0_3) := (zb BK275.out 3).trans rfl; have hfz16_0 := za BK275.out 0; have hfz16_1 := za BK275.out 1; have hfz16_2 := za BK275.out 2; have hfz16_3 := za BK275.out 3) | (go_at_call 49; (try simp only [zd, ze]); (with_reducible refine (q6.calls a0_2 a1 false _ A5.out).mono ?_); rintro e w' ⟨rfl, ⟨nd, rfl⟩⟩))
   go_ret
   exact ⟨sqE, sqB⟩
 ·replace c4 := Bool.eq_false_iff.mpr c4
  subst c4
  have H1 : (some (-1)) = some r := by rw [if_neg (show ¬ (false = true) by decide)] at H; exact H
  clear H
  have H := H1
  clear H1
  obtain rfl := Option.some.inj H
  go_enter Try.func30, Try.ntmps30
  go_wp2_with (first | ((with_reducible refine zA (N := 2) rfl ?_); refine zz ?hg (N := 2) ?hd (cs := #[.int .i64 a0_0, .int .i64 a0_1, .int .i64 a0_2, .slice A0_3 l0_3.length c0_3]) (t := 27) ?hr ?_; (case hd => rfl); (case hg => rfl); (case hr => exact sqG); intro gb275 hg w17 hbox hb; have n0_ := Aside0.mk (zj sqB hb); have n1_ := Aside0.mk (hbox); have n2_ := Aside0.mk ((sqS hg : w.heap.size ≤ gb275)); have n3_ := Aside0.mk ((sqS hg : w.heap.size ≤ gb275)); clear HB; have HB := n0_; have BK275 := n1_; have GW275 := n2_; have GE275 := n3_; clear n0_ n1_ n2_ n3_; clear hb hbox hg; have hcz18_0 : w17.cell? ⟨gb275, 0, none⟩ = some (.int .i64 a0_0) := (zb BK275.out 0).trans rfl; have hcz18_1 : w17.cell? ⟨gb275, 1, none⟩ = some (.int .i64 a0_1) := (zb BK275.out 1).trans rfl; have hcz18_2 : w17.cell? ⟨gb275, 2, none⟩ = some (.int .i64 a0_2) := (zb BK275.out 2).trans rfl; have hcz18_3 : w17.cell? ⟨gb275, 3, none⟩ = some (.slice A0_3 l0_3.length c0_3) := (zb BK275.out 3).trans rfl; have hfz18_0 := za BK275.out 0; have hfz18_1 := za BK275.out 1; have hfz18_2 := za BK275.out 2; have hfz18_3 := za BK275.out 3) | ((with_reducible refine zo (f := 37) rfl ?_); refine zT (some 6) rfl rfl Try.func37 (by kernel_rfl) rfl #[.agg #[.int .i64 a0_0, .int .i64 a0_1, .int .i64 a0_2, .slice A0_3 l0_3.length c0_3]] rfl sqM ?_; (with_reducible refine (zm.calls k a0_0 a0_1 a0_2 _ _ l0_3 false _ ?side1 ?side2 A3.out).mono ?_); (case side1 => exact sqC (Kd.qc HR0_3.out HB.out)); (case side2 => exact HC0_3.out); rintro e w19 ⟨rfl, hb⟩; refine ⟨_, rfl, ?_⟩; have n0_ := Aside0.mk (zh (g := gb275) (o := .cells #[.int .i64 a0_0, .int .i64 a0_1, .int .i64 a0_2, .slice A0_3 l0_3.length c0_3] 27 (0, 0)) (sqK BK275.out) hb); have n1_ := Aside0.mk (zj sqB hb); clear BK275; clear HB; have BK275 := n0_; have HB := n1_; clear n0_ n1_; (try clear hb); (try clear hb2); (try clear hk); (try clear hi)))
  go_ret
  exact ⟨sqE, sqB⟩

def yC.f (a0 : Int) (a1 : Int) : Option (Bool) := (zU.f a0).bind fun t279 => (if t279 = true then (if a1 ≥ 0 then (if 0 ≤ a0 then (some (decide (a1 < (shl .i64 1 a0)))) else (none)) else (some false)) else (some false))
theorem yC.calls (a0 : Int) (a1 : Int) (r : Bool) (w : World) (h : yC.f a0 a1 = some r) :
  Calls Try.prog 51 #[.int .i64 a0, .int .i64 a1] w fun e w' => e = .returned (.bool r) ∧ zq w w' := by
 have H : ((zU.f a0).bind fun t279 => (if t279 = true then (if a1 ≥ 0 then (if 0 ≤ a0 then (some (decide (a1 < (shl .i64 1 a0)))) else (none)) else (some false)) else (some false))) = some r := h
 clear h
 replace H := Option.bind_eq_some_iff.mp H
 obtain ⟨t279, A30, H⟩ := H
 replace H : (if t279 = true then (if a1 ≥ 0 then (if 0 ≤ a0 then (some (decide (a1 < (shl .i64 1 a0)))) else (none)) else (some false)) else (some false)) = some r := H
 have A3 := Aside0.mk A30
 clear A30
 by_cases c4 : t279 = true
 ·subst c4
  have H1 : (if a1 ≥ 0 then (if 0 ≤ a0 then (some (decide (a1 < (shl .i64 1 a0)))) else (none)) else (some false)) = some r := by rw [if_pos rfl] at H; exact H
  clear H
  have H := H1
  clear H1
  by_cases c5 : a1 ≥ 0
  ·rw [if_pos c5] at H
   have c5b0 : decide (0 ≤ a1) = true := decide_eq_true c5
   clear c5
   by_cases c6 : 0 ≤ a0
   ·rw [if_pos c6] at H
    have c6b0 := eq_true c6
    have c6b1 : decide (0 ≤ a0) = true := decide_eq_true c6
    clear c6
    obtain ⟨ji7, hji7⟩ : ∃ j_ : Int, (shl .i64 1 a0) = j_ := ⟨_, rfl⟩
    replace H : (some (decide (a1 < (ji7)))) = some r := by first | (rw [hji7] at H; exact H) | (simp only [hji7] at H ⊢; exact H)
    (try rw [hji7] at A3)
    have hji7_ : (IntKind.i64.wrap (1 * 2 ^ min a0.toNat 64)) = ji7 := hji7
    have hji7z : a0 ≤ 64 → (IntKind.i64.wrap (1 * 2 ^ a0.toNat)) = ji7 := y9 hji7
    have hji7u : (IntKind.i64.wrap (2 ^ min a0.toNat 64)) = ji7 := by have h_ := hji7_; rw [Int.one_mul] at h_; exact h_
    have hji7v : a0 ≤ 64 → (IntKind.i64.wrap (2 ^ a0.toNat)) = ji7 := fun hle_ => by have h_ := hji7z hle_; rw [Int.one_mul] at h_; exact h_
    have hji7y : (wrap64 (1 * 2 ^ min a0.toNat 64)) = ji7 := (zd _).symm.trans hji7_
    have hji7x : a0 ≤ 64 → (wrap64 (1 * 2 ^ a0.toNat)) = ji7 := fun h_ => (zd _).symm.trans (hji7z h_)
    obtain rfl := Option.some.inj H
    go_enter Try.func51, Try.ntmps51
    go_wp2_with (first | ((with_reducible refine zo (f := 68) rfl ?_); refine zT (some 6) rfl rfl Try.func68 (by kernel_rfl) rfl #[.int .i64 a0] rfl sqM ?_; (with_reducible refine (zU.calls a0 true _ A3.out).mono ?_); rintro e w' ⟨rfl, ⟨nd, rfl⟩⟩; refine ⟨_, rfl, ?_⟩))
    go_ret
    exact ⟨by first | rfl | (simp; done) | (simp only [← hji7] <;> (first | rfl | simp)) | (simp [*]; done), by repeat (first | exact zq.refl _ | apply zq.step)⟩
   ·rw [if_neg c6] at H
    exact absurd H (by simp)
  ·rw [if_neg c5] at H
   have c5b0 : decide (0 ≤ a1) = false := decide_eq_false c5
   clear c5
   obtain rfl := Option.some.inj H
   go_enter Try.func51, Try.ntmps51
   go_wp2_with (first | ((with_reducible refine zo (f := 68) rfl ?_); refine zT (some 6) rfl rfl Try.func68 (by kernel_rfl) rfl #[.int .i64 a0] rfl sqM ?_; (with_reducible refine (zU.calls a0 true _ A3.out).mono ?_); rintro e w' ⟨rfl, ⟨nd, rfl⟩⟩; refine ⟨_, rfl, ?_⟩))
   go_ret
   exact ⟨sqD, by repeat (first | exact zq.refl _ | apply zq.step)⟩
 ·replace c4 := Bool.eq_false_iff.mpr c4
  subst c4
  have H1 : (some false) = some r := by rw [if_neg (show ¬ (false = true) by decide)] at H; exact H
  clear H
  have H := H1
  clear H1
  obtain rfl := Option.some.inj H
  go_enter Try.func51, Try.ntmps51
  go_wp2_with (first | ((with_reducible refine zo (f := 68) rfl ?_); refine zT (some 6) rfl rfl Try.func68 (by kernel_rfl) rfl #[.int .i64 a0] rfl sqM ?_; (with_reducible refine (zU.calls a0 false _ A3.out).mono ?_); rintro e w' ⟨rfl, ⟨nd, rfl⟩⟩; refine ⟨_, rfl, ?_⟩))
  go_ret
  exact ⟨sqD, by repeat (first | exact zq.refl _ | apply zq.step)⟩

def ja.f (a0 : Int) : Option (Bool) := if a0 ≥ 0 then (some (decide (a0 < 256))) else (some false)
theorem ja.calls (a0 : Int) (r : Bool) (w : World) (h : ja.f a0 = some r) :
  Calls Try.prog 76 #[.int .i64 a0] w fun e w' => e = .returned (.bool r) ∧ zq w w' := by
 have H : (if a0 ≥ 0 then (some (decide (a0 < 256))) else (some false)) = some r := h
 clear h
 by_cases c2 : a0 ≥ 0
 ·rw [if_pos c2] at H
  have c2b0 : decide (0 ≤ a0) = true := decide_eq_true c2
  clear c2
  obtain rfl := Option.some.inj H
  go_enter Try.func76, Try.ntmps76
  go_wp2
  go_ret
  exact ⟨sqD, by repeat (first | exact zq.refl _ | apply zq.step)⟩
 ·rw [if_neg c2] at H
  have c2b0 : decide (0 ≤ a0) = false := decide_eq_false c2
  clear c2
  obtain rfl := Option.some.inj H
  go_enter Try.func76, Try.ntmps76
  go_wp2
  go_ret
  exact ⟨sqD, by repeat (first | exact zq.refl _ | apply zq.step)⟩

def qW.f (a0 : Int) (a1 : Int) : Option (Bool) := (ja.f a0).bind fun t282 => (if t282 = true then (if a1 ≥ 0 then (if a1 < 8 then (if 0 ≤ a1 then (some ((Go.bits .and .i64 (shr .i64 a0 a1) 1) == 1)) else (none)) else (some false)) else (some false)) else (some false))
theorem qW.calls (a0 : Int) (a1 : Int) (r : Bool) (w : World) (h : qW.f a0 a1 = some r) :
  Calls Try.prog 75 #[.int .i64 a0, .int .i64 a1] w fun e w' => e = .returned (.bool r) ∧ zq w w' := by
 have H : ((ja.f a0).bind fun t282 => (if t282 = true then (if a1 ≥ 0 then (if a1 < 8 then (if 0 ≤ a1 then (some ((Go.bits .and .i64 (shr .i64 a0 a1) 1) == 1)) else (none)) else (some false)) else (some false)) else (some false))) = some r := h
 clear h
 replace H := Option.bind_eq_some_iff.mp H
 obtain ⟨t282, A30, H⟩ := H
 replace H : (if t282 = true then (if a1 ≥ 0 then (if a1 < 8 then (if 0 ≤ a1 then (some ((Go.bits .and .i64 (shr .i64 a0 a1) 1) == 1)) else (none)) else (some false)) else (some false)) else (some false)) = some r := H
 have A3 := Aside0.mk A30
 clear A30
 by_cases c4 : t282 = true
 ·subst c4
  have H1 : (if a1 ≥ 0 then (if a1 < 8 then (if 0 ≤ a1 then (some ((Go.bits .and .i64 (shr .i64 a0 a1) 1) == 1)) else (none)) else (some false)) else (some false)) = some r := by rw [if_pos rfl] at H; exact H
  clear H
  have H := H1
  clear H1
  by_cases c5 : a1 ≥ 0
  ·rw [if_pos c5] at H
   have c5b0 : decide (0 ≤ a1) = true := decide_eq_true c5
   clear c5
   by_cases c6 : a1 < 8
   ·rw [if_pos c6] at H
    have c6b0 : decide (a1 < 8) = true := decide_eq_true c6
    clear c6
    by_cases c7 : 0 ≤ a1
    ·rw [if_pos c7] at H
     have c7b0 := eq_true c7
     have c7b1 : decide (0 ≤ a1) = true := decide_eq_true c7
     clear c7
     obtain ⟨ji8, hji8⟩ : ∃ j_ : Int, (shr .i64 a0 a1) = j_ := ⟨_, rfl⟩
     replace H : (some ((Go.bits .and .i64 (ji8) 1) == 1)) = some r := by first | (rw [hji8] at H; exact H) | (simp only [hji8] at H ⊢; exact H)
     (try rw [hji8] at A3)
     have hji8_ : (a0 / 2 ^ min a1.toNat 64) = ji8 := hji8
     have hji8z : a1 ≤ 64 → (a0 / 2 ^ a1.toNat) = ji8 := y2 hji8
     obtain rfl := Option.some.inj H
     go_enter Try.func75, Try.ntmps75
     go_wp2_with (first | ((with_reducible refine zo (f := 76) rfl ?_); refine zT (some 6) rfl rfl Try.func76 (by kernel_rfl) rfl #[.int .i64 a0] rfl sqM ?_; (with_reducible refine (ja.calls a0 true _ A3.out).mono ?_); rintro e w' ⟨rfl, ⟨nd, rfl⟩⟩; refine ⟨_, rfl, ?_⟩))
     go_ret
     exact ⟨by first | rfl | (simp; done) | (simp only [← hji8] <;> (first | rfl | simp)) | (simp [*]; done), by repeat (first | exact zq.refl _ | apply zq.step)⟩
    ·rw [if_neg c7] at H
     exact absurd H (by simp)
   ·rw [if_neg c6] at H
    have c6b0 : decide (a1 < 8) = false := decide_eq_false c6
    clear c6
    obtain rfl := Option.some.inj H
    go_enter Try.func75, Try.ntmps75
    go_wp2_with (first | ((with_reducible refine zo (f := 76) rfl ?_); refine zT (some 6) rfl rfl Try.func76 (by kernel_rfl) rfl #[.int .i64 a0] rfl sqM ?_; (with_reducible refine (ja.calls a0 true _ A3.out).mono ?_); rintro e w' ⟨rfl, ⟨nd, rfl⟩⟩; refine ⟨_, rfl, ?_⟩))
    go_ret
    exact ⟨sqD, by repeat (first | exact zq.refl _ | apply zq.step)⟩
  ·rw [if_neg c5] at H
   have c5b0 : decide (0 ≤ a1) = false := decide_eq_false c5
   clear c5
   obtain rfl := Option.some.inj H
   go_enter Try.func75, Try.ntmps75
   go_wp2_with (first | ((with_reducible refine zo (f := 76) rfl ?_); refine zT (some 6) rfl rfl Try.func76 (by kernel_rfl) rfl #[.int .i64 a0] rfl sqM ?_; (with_reducible refine (ja.calls a0 true _ A3.out).mono ?_); rintro e w' ⟨rfl, ⟨nd, rfl⟩⟩; refine ⟨_, rfl, ?_⟩))
   go_ret
   exact ⟨sqD, by repeat (first | exact zq.refl _ | apply zq.step)⟩
 ·replace c4 := Bool.eq_false_iff.mpr c4
  subst c4
  have H1 : (some false) = some r := by rw [if_neg (show ¬ (false = true) by decide)] at H; exact H
  clear H
  have H := H1
  clear H1
  obtain rfl := Option.some.inj H
  go_enter Try.func75, Try.ntmps75
  go_wp2_with (first | ((with_reducible refine zo (f := 76) rfl ?_); refine zT (some 6) rfl rfl Try.func76 (by kernel_rfl) rfl #[.int .i64 a0] rfl sqM ?_; (with_reducible refine (ja.calls a0 false _ A3.out).mono ?_); rintro e w' ⟨rfl, ⟨nd, rfl⟩⟩; refine ⟨_, rfl, ?_⟩))
  go_ret
  exact ⟨sqD, by repeat (first | exact zq.refl _ | apply zq.step)⟩

def zN.l0 : Nat → Int → List Int → Int → Option (List Int)
 | 0, _, _, _ => none
 | k + 1, x0, x3, x4 => if x4 < 8 then ((qW.f x0 x4).bind fun t286 => (if t286 = true then (if x3.length < 17592186044416 then (zN.l0 k x0 (x3 ++ [x4]) (wrap64 (x4 + 1))) else (none)) else (zN.l0 k x0 x3 (wrap64 (x4 + 1))))) else (some x3)
def zN.f (k : Nat) (a0 : Int) : Option (List Int) := zN.l0 k a0 (([] : List Int)) 0
theorem zN.calls (k : Nat) (a0 : Int) (r : List Int) (w : World) (h : zN.f k a0 = some r) :
  Calls Try.prog 71 #[.int .i64 a0] w fun e w' => ∃ v0_ : Value, e = .returned (v0_) ∧ Kd.R (Kd.int .i64) 3 w' w.heap.size (fun _ => True) v0_ r ∧ Below w.heap.size w w' := by
 have HB := Aside0.mk (Below.refl w.heap.size w)
 have H : (zN.l0 k a0 (([] : List Int)) 0) = some r := h
 clear h
 obtain ⟨y283, hy283⟩ : ∃ y_ : List Int, y_ = (([] : List Int)) := ⟨_, rfl⟩
 replace H : (zN.l0 k a0 y283 0) = some r := by first | (rw [hy283]; with_reducible exact H) | (have H2_ := (Option.bind_some _ _).symm.trans H; rw [hy283]; with_reducible exact H2_) | (have H2_ := (Option.bind_some _ _).symm.trans H; with_reducible exact H2_) | with_reducible exact H | (rw [hy283]; exact H) | exact H
 have Ny283 := Aside0.mk hy283
 clear hy283
 have H' := Aside0.mk H
 clear H
 go_enter Try.func71, Try.ntmps71
 go_wp2_with (first | ((with_reducible refine zA (N := 5) rfl ?_); refine Kd.yh (Kd.int .i64) _ 3 ?hg (N := 5) ?hd (xs := ([] : List Int)) (inner := []) (ok := fun _ => True) (okp := fun _ => True) ?hr ?hp (fun _ hk => hk) trivial (Below.refl _ _) (Nat.le_refl _) (by simp) ?_; (case hd => rfl); (case hg => rfl); (case hr => exact sqG); (case hp => exact (qk.none _ _)); intro v284 w2 ho3 hb hg_ hnew_; clear hg_ hnew_; (first | rw [← Ny283.out] at ho3 | (simp only [Int.reduceToNat] at ho3; rw [← Ny283.out] at ho3)); have n0_ := Aside0.mk (Kd.qx ho3 (zO sqB)); have n1_ := Aside0.mk (zj sqB hb); clear HB; have HO285 := n0_; have HB := n1_; clear n0_ n1_; clear hb ho3))
 go_loopg [3, 4] k (fun kq v3 v4 w' => ∃ (x3_1 : List Int) (x4_1 : Int), v4 = .int .i64 x4_1 ∧ Aside0 (zN.l0 kq a0 x3_1 x4_1 = some r) ∧ Aside0 (kq ≤ k) ∧ Aside0 (Kd.R (Kd.int .i64) 3 w' w.heap.size (fun _ => True) v3 x3_1) ∧ Aside0 (Below w.heap.size w w'))
 case atStart => exact ⟨(y283), (0), (sqD), H', ⟨Nat.le_refl _⟩, ⟨sqR HO285.out⟩, ⟨sqB⟩⟩
 case round =>
  clear H'
  try clear p2
  obtain ⟨x3_1, x4_1, rfl, HA, HK1, HO_3, HB⟩ := hrel
  cases gk with
  | zero => exact absurd HA.out (by simp [zN.l0])
  | succ k1 =>
   have H := HA.out
   clear HA
   simp only [zN.l0] at H
   by_cases c4 : x4_1 < 8
   ·rw [if_pos c4] at H
    have c4b0 : decide (x4_1 < 8) = true := decide_eq_true c4
    clear c4
    replace H := Option.bind_eq_some_iff.mp H
    obtain ⟨t286, A50, H⟩ := H
    replace H : (if t286 = true then (if x3_1.length < 17592186044416 then (zN.l0 k1 a0 (x3_1 ++ [x4_1]) (wrap64 (x4_1 + 1))) else (none)) else (zN.l0 k1 a0 x3_1 (wrap64 (x4_1 + 1)))) = some r := H
    have A5 := Aside0.mk A50
    clear A50
    by_cases c6 : t286 = true
    ·subst c6
     have H1 : (if x3_1.length < 17592186044416 then (zN.l0 k1 a0 (x3_1 ++ [x4_1]) (wrap64 (x4_1 + 1))) else (none)) = some r := by rw [if_pos rfl] at H; exact H
     clear H
     have H := H1
     clear H1
     by_cases c7 : x3_1.length < 17592186044416
     ·rw [if_pos c7] at H
      have LMc7 := Aside0.mk c7
      clear c7
      obtain ⟨y287, hy287⟩ : ∃ y_ : List Int, y_ = (x3_1 ++ [x4_1]) := ⟨_, rfl⟩
      replace H : (zN.l0 k1 a0 y287 (wrap64 (x4_1 + 1))) = some r := by first | (rw [hy287]; with_reducible exact H) | (have H2_ := (Option.bind_some _ _).symm.trans H; rw [hy287]; with_reducible exact H2_) | (have H2_ := (Option.bind_some _ _).symm.trans H; with_reducible exact H2_) | with_reducible exact H | (rw [hy287]; exact H) | exact H
      have Ny287 := Aside0.mk hy287
      clear hy287
      have H' := Aside0.mk H
      clear H
      go_wp2_with (first | ((with_reducible refine zo (f := 75) rfl ?_); refine zT (some 12) rfl rfl Try.func75 (by kernel_rfl) rfl #[.int .i64 a0, .int .i64 x4_1] rfl sqM ?_; (with_reducible refine (qW.calls a0 x4_1 true _ A5.out).mono ?_); rintro e w' ⟨rfl, ⟨nd, rfl⟩⟩; refine ⟨_, rfl, ?_⟩) | ((with_reducible refine qV (b := .append) (xs := #[.tmp 13, .tmp 15]) rfl ?_); at_builtin; refine Kd.yy (Kd.int .i64) (w0 := w) w.heap.size rfl (.tmp 13) (.tmp 15) 22 3 (.int .i64 0) 8 rfl Try.underlying22 vq rfl (by decide) (by omega) u3 x3_1 x4_1 [.int .i64 x4_1] (fun _ => True) (fun _ => False) rfl rfl ?aP (fun _ hk => hk.elim) ?aF ?aO ?aB ?aS ?aL ?_; (case aP => exact rfl); (case aB => exact sqB); (case aF => exact (fun _ _ => trivial)); (case aO => exact (sqR HO_3.out)); (case aS => exact (zO sqB)); (case aL => have := LMc7.out; omega); intro v288 w8 ho hb hg hat; rw [← Ny287.out] at ho; have n0_ := Aside0.mk (hb); have n1_ := Aside0.mk (ho); clear HB; clear HO_3; have HB := n0_; have HO289 := n1_; clear n0_ n1_; clear ho hb hg hat))
      go_roundg k1
      case measure => have := HK1.out; omega
      case rel => exact ⟨(y287), (wrap64 (x4_1 + 1)), (sqD), H', ⟨by have := HK1.out; omega⟩, ⟨sqR HO289.out⟩, ⟨sqB⟩⟩
     ·rw [if_neg c7] at H
      exact absurd H (by simp)
    ·replace c6 := Bool.eq_false_iff.mpr c6
     subst c6
     have H1 : (zN.l0 k1 a0 x3_1 (wrap64 (x4_1 + 1))) = some r := by rw [if_neg (show ¬ (false = true) by decide)] at H; exact H
     clear H
     have H := H1
     clear H1
     have H' := Aside0.mk H
     clear H
     go_wp2_with (first | ((with_reducible refine zo (f := 75) rfl ?_); refine zT (some 12) rfl rfl Try.func75 (by kernel_rfl) rfl #[.int .i64 a0, .int .i64 x4_1] rfl sqM ?_; (with_reducible refine (qW.calls a0 x4_1 false _ A5.out).mono ?_); rintro e w' ⟨rfl, ⟨nd, rfl⟩⟩; refine ⟨_, rfl, ?_⟩))
     go_roundg k1
     case measure => have := HK1.out; omega
     case rel => exact ⟨(x3_1), (wrap64 (x4_1 + 1)), (sqD), H', ⟨by have := HK1.out; omega⟩, ⟨sqR HO_3.out⟩, ⟨sqB⟩⟩
   ·rw [if_neg c4] at H
    have c4b0 : decide (x4_1 < 8) = false := decide_eq_false c4
    clear c4
    obtain rfl := Option.some.inj H
    go_wp2
    go_ret
    exact ⟨_, sqE, sqR HO_3.out, sqB⟩

mutual
def zC.l0 : Nat → List Int → Int → Int → Int → Int → List Int → Int → Int → Int → List Int → Option (Int × Int × Int × List Int)
 | 0, _, _, _, _, _, _, _, _, _, _ => none
 | k + 1, x5, x7, x291000, x291001, x291002, x291003, x296000, x296001, x296002, x296003 => if x7 < x291001 then (zC.l1 k x5 x7 x5 (x5.length : Int) 0 x291000 x291001 x291002 x291003 x296000 x296001 x296002 x296003) else (some (x296000, x296001, x296002, x296003))
def zC.l1 : Nat → List Int → Int → List Int → Int → Int → Int → Int → Int → List Int → Int → Int → Int → List Int → Option (Int × Int × Int × List Int)
 | 0, _, _, _, _, _, _, _, _, _, _, _, _, _ => none
 | k + 1, x5, x7, x25, x26, x27, x291000, x291001, x291002, x291003, x296000, x296001, x296002, x296003 => if x27 < x26 then (if 0 ≤ x27 then (if x27 < (x25.length : Int) then ((jl.f x291000 x291001 x291002 x291003 x7 (rd x25 x27)).bind fun t297 => (if x296003.length < 17592186044416 then (zC.l1 k x5 x7 x25 x26 (wrap64 (x27 + 1)) x291000 x291001 x291002 x291003 x296000 x296001 x296002 (x296003 ++ [t297])) else (none))) else (none)) else (none)) else (zC.l0 k x5 (wrap64 (x7 + 1)) x291000 x291001 x291002 x291003 x296000 x296001 x296002 x296003)
end
def zC.f (k : Nat) (a0_0 : Int) (a0_1 : Int) (a0_2 : Int) (l0_3 : List Int) (a1 : Int) : Option (Int × Int × Int × List Int) := (zN.f k a1).bind fun t292 => (zC.l0 k t292 0 a0_0 a0_1 a0_2 l0_3 a0_0 a0_1 (t292.length : Int) ([] : List Int))
def zC.T9 : Bool × List (List Nat × List Nat) := (true, [([], []), ([0], [0]), ([], []), ([], []), ([], []), ([2, 3, 4], [2, 3, 4]), ([5], [5]), ([1, 6, 5], [1, 6]), ([0, 1, 2, 3, 4, 5, 6, 7], []), ([8, 7, 7, 0, 1, 2, 3, 4, 5, 6, 7], [7, 8])])
def zC.B9 : List Nat := [0, 1, 0, 0, 0, 28, 60, 127, 255, 511]
theorem zC.tab9 : jf .any (opsOf Try.f59 9) = zC.T9 := by kernel_rfl
theorem zC.JR : qT zC.T9.2 zC.B9 = true := by kernel_rfl
theorem zC.calls (k : Nat) (a0_0 : Int) (a0_1 : Int) (a0_2 : Int) (A0_3 : Option Addr) (c0_3 : Nat) (l0_3 : List Int) (a1 : Int) (r1 : Int) (r2 : Int) (r3 : Int) (r4 : List Int) (w : World) (hr0_3 : Kd.C (Kd.int .i64) w A0_3 l0_3.length l0_3) (hc0_3 : l0_3.length ≤ c0_3) (h : zC.f k a0_0 a0_1 a0_2 l0_3 a1 = some (r1, r2, r3, r4)) :
  Calls Try.prog 59 #[.agg #[.int .i64 a0_0, .int .i64 a0_1, .int .i64 a0_2, .slice A0_3 l0_3.length c0_3], .int .i64 a1] w fun e w' => ∃ v3_ : Value, e = .returned (.agg #[.int .i64 r1, .int .i64 r2, .int .i64 r3, v3_]) ∧ Kd.R (Kd.int .i64) 3 w' w.heap.size (fun _ => True) v3_ r4 ∧ Below w.heap.size w w' := by
 have hu27 := Try.underlying27
 have HR0_3 := Aside0.mk hr0_3
 have HC0_3 := Aside0.mk hc0_3
 clear hr0_3 hc0_3
 have HB := Aside0.mk (Below.refl w.heap.size w)
 have H : ((zN.f k a1).bind fun t292 => (zC.l0 k t292 0 a0_0 a0_1 a0_2 l0_3 a0_0 a0_1 (t292.length : Int) ([] : List Int))) = some (r1, r2, r3, r4) := h
 clear h
 replace H := Option.bind_eq_some_iff.mp H
 obtain ⟨t292, A30, H⟩ := H
 replace H : (zC.l0 k t292 0 a0_0 a0_1 a0_2 l0_3 a0_0 a0_1 (t292.length : Int) ([] : List Int)) = some (r1, r2, r3, r4) := H
 have A3 := Aside0.mk A30
 clear A30
 have H' := Aside0.mk H
 clear H
 go_enter Try.func59, Try.ntmps59
 go_wp2_with (first | ((with_reducible refine zA (N := 2) rfl ?_); refine zz ?hg (N := 2) ?hd (cs := #[.int .i64 a0_0, .int .i64 a0_1, .int .i64 a0_2, .slice A0_3 l0_3.length c0_3]) (t := 27) ?hr ?_; (case hd => rfl); (case hg => rfl); (case hr => exact sqG); intro gb290 hg w4 hbox hb; have n0_ := Aside0.mk (zj sqB hb); have n1_ := Aside0.mk (hbox); have n2_ := Aside0.mk ((sqS hg : w.heap.size ≤ gb290)); have n3_ := Aside0.mk ((sqS hg : w.heap.size ≤ gb290)); clear HB; have HB := n0_; have BK290 := n1_; have GW290 := n2_; have GE290 := n3_; clear n0_ n1_ n2_ n3_; clear hb hbox hg) | ((with_reducible refine zA (N := 4) rfl ?_); refine zz ?hg (N := 4) ?hd (cs := #[.int .i64 0, .int .i64 0, .int .i64 0, .slice none 0 0]) (t := 27) ?hr ?_; (case hd => rfl); (case hg => rfl); (case hr => exact sqG); intro gb291 hg w5 hbox hb; have n0_ := Aside0.mk (zh (g := gb290) (o := .cells #[.int .i64 a0_0, .int .i64 a0_1, .int .i64 a0_2, .slice A0_3 l0_3.length c0_3] 27 (0, 0)) (sqK BK290.out) hb); have n1_ := Aside0.mk (zj sqB hb); have n2_ := Aside0.mk (hbox); have n3_ := Aside0.mk ((sqS hg : w.heap.size ≤ gb291)); have n4_ := Aside0.mk ((sqS hg : w.heap.size ≤ gb291)); have n5_ := Aside0.mk ((by rw [hg]; exact Nat.ne_of_lt (zI (g := gb290) (o := .cells #[.int .i64 a0_0, .int .i64 a0_1, .int .i64 a0_2, .slice A0_3 l0_3.length c0_3] 27 (0, 0)) (sqK BK290.out)) : gb290 ≠ gb291)); have n6_ := Aside0.mk ((by rw [hg]; exact Nat.ne_of_gt (zI (g := gb290) (o := .cells #[.int .i64 a0_0, .int .i64 a0_1, .int .i64 a0_2, .slice A0_3 l0_3.length c0_3] 27 (0, 0)) (sqK BK290.out)) : gb291 ≠ gb290)); clear BK290; clear HB; have BK290 := n0_; have HB := n1_; have BK291 := n2_; have GW291 := n3_; have GE291 := n4_; have NB290_291 := n5_; have NB291_290 := n6_; clear n0_ n1_ n2_ n3_ n4_ n5_ n6_; clear hb hbox hg) | ((with_reducible refine zo (f := 71) rfl ?_); refine zT (some 11) rfl rfl Try.func71 (by kernel_rfl) rfl #[.int .i64 a1] rfl sqM ?_; (with_reducible refine (zN.calls k a1 t292 _ A3.out).mono ?_); rintro e w6 ⟨v293, rfl, ho0, hb⟩; refine ⟨_, rfl, ?_⟩; have n0_ := Aside0.mk (Kd.qx ho0 (zO sqB)); have n1_ := Aside0.mk (zh (g := gb290) (o := .cells #[.int .i64 a0_0, .int .i64 a0_1, .int .i64 a0_2, .slice A0_3 l0_3.length c0_3] 27 (0, 0)) (sqK BK290.out) hb); have n2_ := Aside0.mk (zh (g := gb291) (o := .cells #[.int .i64 0, .int .i64 0, .int .i64 0, .slice none 0 0] 27 (0, 0)) (sqK BK291.out) hb); have n3_ := Aside0.mk (zj sqB hb); clear BK290; clear BK291; clear HB; have HO294 := n0_; have BK290 := n1_; have BK291 := n2_; have HB := n3_; clear n0_ n1_ n2_ n3_; (try clear hb); (try clear hb2); (try clear hk); (try clear hi); (try clear ho0); have hnb7 := NB290_291.out; have hnc7 := NB291_290.out; have hcz8_0 : w6.cell? ⟨gb290, 0, none⟩ = some (.int .i64 a0_0) := (zb BK290.out 0).trans rfl; have hcz8_1 : w6.cell? ⟨gb290, 1, none⟩ = some (.int .i64 a0_1) := (zb BK290.out 1).trans rfl; have hcz8_2 : w6.cell? ⟨gb290, 2, none⟩ = some (.int .i64 a0_2) := (zb BK290.out 2).trans rfl; have hcz8_3 : w6.cell? ⟨gb290, 3, none⟩ = some (.slice A0_3 l0_3.length c0_3) := (zb BK290.out 3).trans rfl; have hfz8_0 := za BK290.out 0; have hfz8_1 := za BK290.out 1; have hfz8_2 := za BK290.out 2; have hfz8_3 := za BK290.out 3; obtain ⟨Ao9, co9, eo9⟩ := Kd.qb HO294.out; subst eo9) | ((with_reducible refine zA (N := 6) rfl ?_); refine zz ?hg (N := 6) ?hd (cs := #[.int .i64 0, .int .i64 0, .int .i64 0, .slice none 0 0]) (t := 27) ?hr ?_; (case hd => rfl); (case hg => rfl); (case hr => exact sqG); intro gb295 hg w10 hbox hb; have n0_ := Aside0.mk (Kd.zJ (sqR HO294.out) hb); have n1_ := Aside0.mk (zh (g := gb290) (o := .cells #[.int .i64 a0_0, .int .i64 a0_1, .int .i64 a0_2, .slice A0_3 l0_3.length c0_3] 27 (0, 0)) (sqK BK290.out) hb); have n2_ := Aside0.mk (zh (g := gb291) (o := .cells #[.int .i64 0, .int .i64 0, .int .i64 0, .slice none 0 0] 27 (0, 0)) (sqK BK291.out) hb); have n3_ := Aside0.mk (zj sqB hb); have n4_ := Aside0.mk (hbox); have n5_ := Aside0.mk ((sqS hg : w.heap.size ≤ gb295)); have n6_ := Aside0.mk ((sqS hg : w.heap.size ≤ gb295)); have n7_ := Aside0.mk ((by rw [hg]; exact Nat.ne_of_lt (zI (g := gb290) (o := .cells #[.int .i64 a0_0, .int .i64 a0_1, .int .i64 a0_2, .slice A0_3 l0_3.length c0_3] 27 (0, 0)) (sqK BK290.out)) : gb290 ≠ gb295)); have n8_ := Aside0.mk ((by rw [hg]; exact Nat.ne_of_gt (zI (g := gb290) (o := .cells #[.int .i64 a0_0, .int .i64 a0_1, .int .i64 a0_2, .slice A0_3 l0_3.length c0_3] 27 (0, 0)) (sqK BK290.out)) : gb295 ≠ gb290)); have n9_ := Aside0.mk ((by rw [hg]; exact Nat.ne_of_lt (zI (g := gb291) (o := .cells #[.int .i64 0, .int .i64 0, .int .i64 0, .slice none 0 0] 27 (0, 0)) (sqK BK291.out)) : gb291 ≠ gb295)); have n10_ := Aside0.mk ((by rw [hg]; exact Nat.ne_of_gt (zI (g := gb291) (o := .cells #[.int .i64 0, .int .i64 0, .int .i64 0, .slice none 0 0] 27 (0, 0)) (sqK BK291.out)) : gb295 ≠ gb291)); clear HO294; clear BK290; clear BK291; clear HB; have HO294 := n0_; have BK290 := n1_; have BK291 := n2_; have HB := n3_; have BK295 := n4_; have GW295 := n5_; have GE295 := n6_; have NB290_295 := n7_; have NB295_290 := n8_; have NB291_295 := n9_; have NB295_291 := n10_; clear n0_ n1_ n2_ n3_ n4_ n5_ n6_ n7_ n8_ n9_ n10_; clear hb hbox hg; have hnb11 := NB295_290.out; have hnc11 := NB290_295.out; have hnb12 := NB295_291.out; have hnc12 := NB291_295.out; have hcz13_0 : w10.cell? ⟨gb295, 0, none⟩ = some (.int .i64 0) := (zb BK295.out 0).trans rfl; have hcz13_1 : w10.cell? ⟨gb295, 1, none⟩ = some (.int .i64 0) := (zb BK295.out 1).trans rfl; have hcz13_2 : w10.cell? ⟨gb295, 2, none⟩ = some (.int .i64 0) := (zb BK295.out 2).trans rfl; have hcz13_3 : w10.cell? ⟨gb295, 3, none⟩ = some (.slice none 0 0) := (zb BK295.out 3).trans rfl; have hfz13_0 := za BK295.out 0; have hfz13_1 := za BK295.out 1; have hfz13_2 := za BK295.out 2; have hfz13_3 := za BK295.out 3))
 go_loopg [7] k (fun kq v7 w' => ∃ (x7_1 : Int) (x296003_1 : List Int) (u296003 : Value), v7 = .int .i64 x7_1 ∧ Aside0 (zC.l0 kq t292 x7_1 a0_0 a0_1 a0_2 l0_3 a0_0 a0_1 (t292.length : Int) x296003_1 = some (r1, r2, r3, r4)) ∧ Aside0 (kq ≤ k) ∧ Aside0 (Kd.R (Kd.int .i64) 3 w' w.heap.size (fun k_ => some k_ ≠ (u296003 : Value).ownBlock) (.slice Ao9 t292.length co9) t292) ∧ Aside0 (Kd.R (Kd.int .i64) 3 w' w.heap.size (fun k_ => some k_ ≠ ((.slice Ao9 t292.length co9) : Value).ownBlock) u296003 x296003_1) ∧ Aside0 (w'.heap[gb290]? = some (.cells #[.int .i64 a0_0, .int .i64 a0_1, .int .i64 a0_2, (.slice A0_3 l0_3.length c0_3)] 27 (0, 0))) ∧ Aside0 (w'.heap[gb291]? = some (.cells #[.int .i64 0, .int .i64 0, .int .i64 0, (.slice none 0 0)] 27 (0, 0))) ∧ Aside0 (w'.heap[gb295]? = some (.cells #[.int .i64 a0_0, .int .i64 a0_1, .int .i64 (t292.length : Int), u296003] 27 (0, 0))) ∧ Aside0 (Below w.heap.size w w'))
 case atStart => exact ⟨(0), (([] : List Int)), (.slice none 0 0), (sqD), H', ⟨Nat.le_refl _⟩, ⟨by refine sqR ?_; exact Kd.zE (Kd.zv (p := ⟨gb295, 3, none⟩) (Kd.zv (p := ⟨gb295, 2, none⟩) (Kd.zv (p := ⟨gb295, 1, none⟩) (Kd.zv (p := ⟨gb295, 0, none⟩) (Kd.zQ HO294.out BK295.out (by decide)) (fun _ hk => hk.2) (.int .i64 a0_0)) (fun _ hk => hk.2) (.int .i64 a0_1)) (fun _ hk => hk.2) (.int .i64 (t292.length : Int))) (fun _ hk => hk.2) (.slice none 0 0)) (fun _ hk => (by simp [Value.ownBlock]))⟩, ⟨sqN⟩, ⟨by refine sqK ?_; refine zw ?_ NB290_295.out _; refine sqK ?_; refine zw ?_ NB290_295.out _; refine sqK ?_; refine zw ?_ NB290_295.out _; refine sqK ?_; refine zw ?_ NB290_295.out _; refine sqK ?_; exact BK290.out⟩, ⟨by refine sqK ?_; refine zw ?_ NB291_295.out _; refine sqK ?_; refine zw ?_ NB291_295.out _; refine sqK ?_; refine zw ?_ NB291_295.out _; refine sqK ?_; refine zw ?_ NB291_295.out _; refine sqK ?_; exact BK291.out⟩, ⟨by refine sqK ?_; refine zD (cs := #[.int .i64 a0_0, .int .i64 a0_1, .int .i64 (t292.length : Int), .slice none 0 0]) ?_ 3 _ rfl; refine sqK ?_; refine zD (cs := #[.int .i64 a0_0, .int .i64 a0_1, .int .i64 0, .slice none 0 0]) ?_ 2 _ rfl; refine sqK ?_; refine zD (cs := #[.int .i64 a0_0, .int .i64 0, .int .i64 0, .slice none 0 0]) ?_ 1 _ rfl; refine sqK ?_; refine zD (cs := #[.int .i64 0, .int .i64 0, .int .i64 0, .slice none 0 0]) ?_ 0 _ rfl; refine sqK ?_; exact BK295.out⟩, ⟨sqB⟩⟩
 case round =>
  clear H'
  try clear c1
  try clear p2
  try clear c5
  try clear c7
  try clear c11
  try clear c12
  try clear hcz13_0
  try clear hcz13_1
  try clear hcz13_2
  try clear hcz13_3
  try clear hcz8_0
  try clear hcz8_1
  try clear hcz8_2
  try clear hcz8_3
  try clear hfz13_0
  try clear hfz13_1
  try clear hfz13_2
  try clear hfz13_3
  try clear hfz8_0
  try clear hfz8_1
  try clear hfz8_2
  try clear hfz8_3
  obtain ⟨x7_1, x296003_1, u296003, rfl, HA, HK1, HO_5, HO_296003, BK290, BK291, BK295, HB⟩ := hrel
  cases gk with
  | zero => exact absurd HA.out (by simp [zC.l0])
  | succ k1 =>
   have H := HA.out
   clear HA
   simp only [zC.l0] at H
   by_cases c14 : x7_1 < a0_1
   ·rw [if_pos c14] at H
    have c14b0 : decide (x7_1 < a0_1) = true := decide_eq_true c14
    clear c14
    have H' := Aside0.mk H
    clear H
    have hnb15 := NB290_291.out
    have hnc15 := NB291_290.out
    have hnb16 := NB290_295.out
    have hnc16 := NB295_290.out
    have hcz17_0 : wr.cell? ⟨gb290, 0, none⟩ = some (.int .i64 a0_0) := (zb BK290.out 0).trans rfl
    have hcz17_1 : wr.cell? ⟨gb290, 1, none⟩ = some (.int .i64 a0_1) := (zb BK290.out 1).trans rfl
    have hcz17_2 : wr.cell? ⟨gb290, 2, none⟩ = some (.int .i64 a0_2) := (zb BK290.out 2).trans rfl
    have hcz17_3 : wr.cell? ⟨gb290, 3, none⟩ = some (.slice A0_3 l0_3.length c0_3) := (zb BK290.out 3).trans rfl
    have hfz17_0 := za BK290.out 0; have hfz17_1 := za BK290.out 1; have hfz17_2 := za BK290.out 2; have hfz17_3 := za BK290.out 3
    go_wp2
    go_loopg [27] k1 (fun kq v27 w' => ∃ (x27_2 : Int) (x296003_2 : List Int) (u296003 : Value), v27 = .int .i64 x27_2 ∧ Aside0 (zC.l1 kq t292 x7_1 t292 (t292.length : Int) x27_2 a0_0 a0_1 a0_2 l0_3 a0_0 a0_1 (t292.length : Int) x296003_2 = some (r1, r2, r3, r4)) ∧ Aside0 (kq ≤ k1) ∧ Aside0 (Kd.R (Kd.int .i64) 3 w' w.heap.size (fun k_ => some k_ ≠ (u296003 : Value).ownBlock) (.slice Ao9 t292.length co9) t292) ∧ Aside0 (Kd.R (Kd.int .i64) 3 w' w.heap.size (fun k_ => some k_ ≠ (u296003 : Value).ownBlock) (.slice Ao9 t292.length co9) t292) ∧ Aside0 (Kd.R (Kd.int .i64) 3 w' w.heap.size (fun k_ => some k_ ≠ ((.slice Ao9 t292.length co9) : Value).ownBlock ∧ some k_ ≠ ((.slice Ao9 t292.length co9) : Value).ownBlock) u296003 x296003_2) ∧ Aside0 (w'.heap[gb290]? = some (.cells #[.int .i64 a0_0, .int .i64 a0_1, .int .i64 a0_2, (.slice A0_3 l0_3.length c0_3)] 27 (0, 0))) ∧ Aside0 (w'.heap[gb291]? = some (.cells #[.int .i64 0, .int .i64 0, .int .i64 0, (.slice none 0 0)] 27 (0, 0))) ∧ Aside0 (w'.heap[gb295]? = some (.cells #[.int .i64 a0_0, .int .i64 a0_1, .int .i64 (t292.length : Int), u296003] 27 (0, 0))) ∧ Aside0 (Below w.heap.size w w'))
    case atStart => exact ⟨(0), (x296003_1), (u296003), (sqD), H', ⟨Nat.le_refl _⟩, ⟨sqR HO_5.out⟩, ⟨sqR HO_5.out⟩, ⟨by refine sqR ?_; exact Kd.zE HO_296003.out (fun _ hk => by first | exact ⟨hk, hk⟩ | (refine ⟨?_, ?_⟩ <;> intro e_ <;> simp only [e_, ne_eq, not_true_eq_false, and_false, false_and] at hk))⟩, ⟨sqK BK290.out⟩, ⟨sqK BK291.out⟩, ⟨sqK BK295.out⟩, ⟨sqB⟩⟩
    case round =>
     clear H'
     try clear c1
     try clear p2
     try clear c5
     try clear c7
     try clear c11
     try clear c12
     try clear c14
     try clear c14b0
     try clear c15
     try clear c16
     try clear hcz13_0
     try clear hcz13_1
     try clear hcz13_2
     try clear hcz13_3
     try clear hcz17_0
     try clear hcz17_1
     try clear hcz17_2
     try clear hcz17_3
     try clear hcz8_0
     try clear hcz8_1
     try clear hcz8_2
     try clear hcz8_3
     try clear hfz13_0
     try clear hfz13_1
     try clear hfz13_2
     try clear hfz13_3
     try clear hfz17_0
     try clear hfz17_1
     try clear hfz17_2
     try clear hfz17_3
     try clear hfz8_0
     try clear hfz8_1
     try clear hfz8_2
     try clear hfz8_3
     try clear p2
     obtain ⟨x27_2, x296003_2, u296003, rfl, HA, HK2, HO_5, HO_25, HO_296003, BK290, BK291, BK295, HB⟩ := hrel
     cases gk with
     | zero => exact absurd HA.out (by simp [zC.l1])
     | succ k2 =>
      have H := HA.out
      clear HA
      simp only [zC.l1] at H
      by_cases c18 : x27_2 < (t292.length : Int)
      ·rw [if_pos c18] at H
       have c18b0 : decide (x27_2 < (t292.length : Int)) = true := decide_eq_true c18
       clear c18
       by_cases c19 : 0 ≤ x27_2
       ·rw [if_pos c19] at H
        have c19b0 : decide (0 ≤ x27_2) = true := decide_eq_true c19
        clear c19
        by_cases c20 : x27_2 < (t292.length : Int)
        ·rw [if_pos c20] at H
         have c20b0 : decide (x27_2 < (t292.length : Int)) = true := decide_eq_true c20
         clear c20
         replace H := Option.bind_eq_some_iff.mp H
         obtain ⟨t297, A210, H⟩ := H
         replace H : (if x296003_2.length < 17592186044416 then (zC.l1 k2 t292 x7_1 t292 (t292.length : Int) (wrap64 (x27_2 + 1)) a0_0 a0_1 a0_2 l0_3 a0_0 a0_1 (t292.length : Int) (x296003_2 ++ [t297])) else (none)) = some (r1, r2, r3, r4) := H
         have A21 := Aside0.mk A210
         clear A210
         by_cases c22 : x296003_2.length < 17592186044416
         ·rw [if_pos c22] at H
          have LMc22 := Aside0.mk c22
          clear c22
          obtain ⟨y298, hy298⟩ : ∃ y_ : List Int, y_ = (x296003_2 ++ [t297]) := ⟨_, rfl⟩
          replace H : (zC.l1 k2 t292 x7_1 t292 (t292.length : Int) (wrap64 (x27_2 + 1)) a0_0 a0_1 a0_2 l0_3 a0_0 a0_1 (t292.length : Int) y298) = some (r1, r2, r3, r4) := by first | (rw [hy298]; with_reducible exact H) | (have H2_ := (Option.bind_some _ _).symm.trans H; rw [hy298]; with_reducible exact H2_) | (have H2_ := (Option.bind_some _ _).symm.trans H; with_reducible exact H2_) | with_reducible exact H | (rw [hy298]; exact H) | exact H
          have Ny298 := Aside0.mk hy298
          clear hy298
          have H' := Aside0.mk H
          clear H
          have p296 : 0 ≤ (x27_2 : Int) := of_decide_eq_true sqA
          have q296 : x27_2 < (t292.length : Int) := of_decide_eq_true sqA
          obtain ⟨ad296, e296, hx296_0⟩ := Kd.qh (Kd.zx HO_25.out).2.2 x27_2 p296 q296
          cases e296
          replace p296 := eq_true p296
          replace q296 := eq_true q296
          try go_wp2
          have n0_ := Aside0.mk (Kd.q8 HO_5.out)
          have n1_ := Aside0.mk (Kd.q8 HO_25.out)
          have n2_ := Aside0.mk (Kd.q8 HO_296003.out)
          have n3_ := Aside0.mk (qm BK290.out)
          have n4_ := Aside0.mk (qm BK291.out)
          have n5_ := Aside0.mk (qm BK295.out)
          have n6_ := Aside0.mk (zS HB.out)
          clear HO_5 HO_25 HO_296003 BK290 BK291 BK295 HB; have HO_5 := n0_; have HO_25 := n1_; have HO_296003 := n2_; have BK290 := n3_; have BK291 := n4_; have BK295 := n5_; have HB := n6_; clear n0_ n1_ n2_ n3_ n4_ n5_ n6_
          refine jA (n := 10) (S := fun w' => w'.cell? ⟨gb295, 0, none⟩ = some (.int .i64 a0_0) ∧ w'.cell? ⟨gb295, 1, none⟩ = some (.int .i64 a0_1) ∧ w'.cell? ⟨gb295, 2, none⟩ = some (.int .i64 (t292.length : Int)) ∧ w'.cell? ⟨gb295, 3, none⟩ = some (u296003) ∧ w'.cell? ⟨gb290, 0, none⟩ = some (.int .i64 a0_0) ∧ w'.cell? ⟨gb290, 1, none⟩ = some (.int .i64 a0_1) ∧ w'.cell? ⟨gb290, 2, none⟩ = some (.int .i64 a0_2) ∧ w'.cell? ⟨gb290, 3, none⟩ = some (.slice A0_3 l0_3.length c0_3)) (ds := [9]) #[false, false, false, false, false, false, false, false, false, false] (by kernel_rfl) rfl rfl ⟨(zb BK295.out 0).trans rfl, (zb BK295.out 1).trans rfl, (zb BK295.out 2).trans rfl, (zb BK295.out 3).trans rfl, (zb BK290.out 0).trans rfl, (zb BK290.out 1).trans rfl, (zb BK290.out 2).trans rfl, (zb BK290.out 3).trans rfl⟩ (fun hHeld => ?_); refine qM zC.tab9 zC.JR (fun HT_ HW_ => ?_)
          generalize wr.drew = w23 at HO_5 HO_25 HO_296003 BK290 BK291 BK295 HB hHeld ⊢
          refine zt (i := 0) (N := some 31) (v := ?_) (a' := ?_) #[true, false, false, false, false, false, false, false, false, false] rfl rfl (zl HT_.out (by kernel_rfl)) (fun _ _ _ h => h) (Or.inl ⟨by rfl, ?_⟩) ?_ ?_
          rotate_left
          ·intro w'; go_simp; with_reducible rfl
          rotate_left
          ·simp only [Act.put, List.setIfInBounds_toArray, List.set_cons_zero, List.set_cons_succ, zd, ze]; rfl
          refine zt (i := 3) (N := some 34) (v := ?_) (a' := ?_) #[true, false, false, true, false, false, false, false, false, false] rfl rfl (zl HT_.out (by kernel_rfl)) (fun _ _ _ h => h) (Or.inl ⟨by rfl, ?_⟩) ?_ ?_
          rotate_left
          ·intro w'; go_simp; with_reducible rfl
          rotate_left
          ·simp only [Act.put, List.setIfInBounds_toArray, List.set_cons_zero, List.set_cons_succ, zd, ze]; rfl
          refine zt (i := 4) (N := some 35) (v := ?_) (a' := ?_) #[true, false, false, true, true, false, false, false, false, false] rfl rfl (zl HT_.out (by kernel_rfl)) (fun _ _ _ h => h) (Or.inl ⟨by rfl, ?_⟩) ?_ ?_
          rotate_left
          ·intro w'; go_simp; with_reducible rfl
          rotate_left
          ·simp only [Act.put, List.setIfInBounds_toArray, List.set_cons_zero, List.set_cons_succ, zd, ze]; rfl
          refine qe (i := 1) (N := some 32) (v := ?_) (a' := ?_) #[true, true, false, true, true, false, false, false, false, false] rfl rfl (zG HT_.out HW_.out (by kernel_rfl)) (fun _ _ _ h => h) (Or.inl ⟨by rfl, ?_⟩) hHeld ?_ ?_
          rotate_left
          ·rintro w' ⟨s0, s1, s2, s3, s4, s5, s6, s7⟩; go_simp; with_reducible rfl
          rotate_left
          ·simp only [Act.put, List.setIfInBounds_toArray, List.set_cons_zero, List.set_cons_succ, zd, ze]; rfl
          refine qe (i := 2) (N := some 33) (v := ?_) (a' := ?_) #[true, true, true, true, true, false, false, false, false, false] rfl rfl (zG HT_.out HW_.out (by kernel_rfl)) (fun _ _ _ h => h) (Or.inl ⟨by rfl, ?_⟩) hHeld ?_ ?_
          rotate_left
          ·rintro w' ⟨s0, s1, s2, s3, s4, s5, s6, s7⟩; go_simp; with_reducible rfl
          rotate_left
          ·simp only [Act.put, List.setIfInBounds_toArray, List.set_cons_zero, List.set_cons_succ, zd, ze]; rfl
          refine yR (i := 5) (N := some 36) #[true, true, true, true, true, true, false, false, false, false] rfl rfl (q4 HT_.out (by kernel_rfl)) (by decide) (fun K hK => ?_)
          refine y6 Try.func40 (by kernel_rfl) rfl #[.agg #[.int .i64 a0_0, .int .i64 a0_1, .int .i64 a0_2, .slice A0_3 l0_3.length c0_3], .int .i64 x7_1, .int .i64 (rd t292 x27_2)] (by rfl) rfl rfl sqM ?_
          with_reducible refine (jl.calls a0_0 a0_1 a0_2 _ _ l0_3 x7_1 (rd t292 x27_2) t297 _ ?side1 ?side2 A21.out).mono ?_
          (case side1 => exact sqC (Kd.qc HR0_3.out HB.out))
          (case side2 => exact HC0_3.out)
          rintro e w24 ⟨rfl, hb⟩
          refine ⟨_, rfl, ?_⟩
          have n0_ := Aside0.mk (Kd.zJ (sqR HO_5.out) hb)
          have n1_ := Aside0.mk (Kd.zJ (sqR HO_25.out) hb)
          have n2_ := Aside0.mk (Kd.zJ (sqR HO_296003.out) hb)
          have n3_ := Aside0.mk (zh (g := gb290) (o := .cells #[.int .i64 a0_0, .int .i64 a0_1, .int .i64 a0_2, .slice A0_3 l0_3.length c0_3] 27 (0, 0)) (sqK BK290.out) hb)
          have n4_ := Aside0.mk (zh (g := gb291) (o := .cells #[.int .i64 0, .int .i64 0, .int .i64 0, .slice none 0 0] 27 (0, 0)) (sqK BK291.out) hb)
          have n5_ := Aside0.mk (zh (g := gb295) (o := .cells #[.int .i64 a0_0, .int .i64 a0_1, .int .i64 (t292.length : Int), u296003] 27 (0, 0)) (sqK BK295.out) hb)
          have n6_ := Aside0.mk (zj sqB hb)
          clear HO_5 HO_25 HO_296003 BK290 BK291 BK295 HB; have HO_5 := n0_; have HO_25 := n1_; have HO_296003 := n2_; have BK290 := n3_; have BK291 := n4_; have BK295 := n5_; have HB := n6_; clear n0_ n1_ n2_ n3_ n4_ n5_ n6_; (try clear hb); (try clear hb2); (try clear hk); (try clear hi)
          refine hK.out _ _ ⟨(zb BK295.out 0).trans rfl, (zb BK295.out 1).trans rfl, (zb BK295.out 2).trans rfl, (zb BK295.out 3).trans rfl, (zb BK290.out 0).trans rfl, (zb BK290.out 1).trans rfl, (zb BK290.out 2).trans rfl, (zb BK290.out 3).trans rfl⟩ (fun hHeld => ?_)
          clear hK K
          refine vS (a' := ?_) ?_ ?_
          rotate_left
          ·show Act.put _ (some 36) _ = _; simp only [Act.put, List.setIfInBounds_toArray, List.set_cons_zero, List.set_cons_succ, zd, ze]; rfl
          refine yR (i := 6) (N := some 37) #[true, true, true, true, true, true, true, false, false, false] rfl rfl (q4 HT_.out (by kernel_rfl)) (by decide) (fun K hK => ?_)
          refine JG (w1 := ?_) (v := ?_) (by rfl) rfl ?_ ?_
          rotate_left 2
          ·go_simp
           constructor
           ·rfl
           ·rfl
          refine hK.out _ _ ⟨(zb (jc BK295.out _) 0).trans rfl, (zb (jc BK295.out _) 1).trans rfl, (zb (jc BK295.out _) 2).trans rfl, (zb (jc BK295.out _) 3).trans rfl, (zb (jc BK290.out _) 0).trans rfl, (zb (jc BK290.out _) 1).trans rfl, (zb (jc BK290.out _) 2).trans rfl, (zb (jc BK290.out _) 3).trans rfl⟩ (fun hHeld => ?_)
          clear hK K
          refine vS (a' := ?_) ?_ ?_
          rotate_left
          ·show Act.put _ (some 37) _ = _; simp only [Act.put, List.setIfInBounds_toArray, List.set_cons_zero, List.set_cons_succ, zd, ze]; rfl
          refine yR (i := 7) (N := some 38) #[true, true, true, true, true, true, true, true, false, false] rfl rfl (q4 HT_.out (by kernel_rfl)) (by decide) (fun K hK => ?_)
          refine Kd.yO (Kd.int .i64) (w0 := w) w.heap.size (by rfl) (.tmp 32) (.tmp 37) 22 3 (.int .i64 0) 8 rfl Try.underlying22 vq rfl (by decide) (by omega) u296003 x296003_2 t297 [.int .i64 t297] (fun k_ => some k_ ≠ (.slice (some ad296) t292.length co9 : Value).ownBlock ∧ some k_ ≠ (.slice (some ad296) t292.length co9 : Value).ownBlock) (fun _ => False) rfl rfl ?aP (fun _ hk => hk.elim) ?aF ?aO ?aB ?aS ?aL ?_
          (case aP => exact rfl)
          (case aB => exact sqB)
          (case aF => exact (fun k_ hk => ⟨Kd.Zf (Kd.jH (sqR HO_5.out)) k_ hk, Kd.Zf (Kd.jH (sqR HO_25.out)) k_ hk⟩))
          (case aO => exact (sqR HO_296003.out))
          (case aS => exact (zO sqB))
          (case aL => have := LMc22.out; omega)
          intro v299 w25 ho hb hg hat
          rw [← Ny298.out] at ho
          have n0_ := Aside0.mk (Kd.vt (ok := (fun _ => True)) (by refine sqR ?_; exact Kd.zE HO_5.out (fun _ hk => ⟨trivial, by first | exact hk | exact fun h_ => hk (h_.trans ((fun (A : Option Addr) (x y c : Nat) => (by cases A <;> rfl : (Value.slice A x c).ownBlock = (Value.slice A y c).ownBlock)) _ _ _ _))⟩)) hg hat)
          have n1_ := Aside0.mk (Kd.vt (ok := (fun _ => True)) (by refine sqR ?_; exact Kd.zE HO_25.out (fun _ hk => ⟨trivial, by first | exact hk | exact fun h_ => hk (h_.trans ((fun (A : Option Addr) (x y c : Nat) => (by cases A <;> rfl : (Value.slice A x c).ownBlock = (Value.slice A y c).ownBlock)) _ _ _ _))⟩)) hg hat)
          have n2_ := Aside0.mk (qq (g := gb290) (o := .cells #[.int .i64 a0_0, .int .i64 a0_1, .int .i64 a0_2, .slice A0_3 l0_3.length c0_3] 27 (0, 0)) (sqK BK290.out) hg (Kd.qS HO_296003.out BK290.out (by decide)))
          have n3_ := Aside0.mk (qq (g := gb291) (o := .cells #[.int .i64 0, .int .i64 0, .int .i64 0, .slice none 0 0] 27 (0, 0)) (sqK BK291.out) hg (Kd.qS HO_296003.out BK291.out (by decide)))
          have n4_ := Aside0.mk (qq (g := gb295) (o := .cells #[.int .i64 a0_0, .int .i64 a0_1, .int .i64 (t292.length : Int), u296003] 27 (0, 0)) (sqK BK295.out) hg (Kd.qS HO_296003.out BK295.out (by decide)))
          have n5_ := Aside0.mk (hb)
          have n6_ := Aside0.mk (ho)
          clear HO_5 HO_25 BK290 BK291 BK295 HB HO_296003; have HO_5 := n0_; have HO_25 := n1_; have BK290 := n2_; have BK291 := n3_; have BK295 := n4_; have HB := n5_; have HO300 := n6_; clear n0_ n1_ n2_ n3_ n4_ n5_ n6_ ho hb hg hat
          obtain ⟨Ao26, co26, eo26⟩ := Kd.qb HO300.out
          (first | subst eo26 | (injection eo26 with f1_ f2_ f3_; have f4_ := f1_.symm; have f5_ := f3_.symm; clear f1_ f2_ f3_; subst f4_; subst f5_))
          refine hK.out _ _ ⟨(zb BK295.out 0).trans rfl, (zb BK295.out 1).trans rfl, (zb BK295.out 2).trans rfl, (zb BK295.out 3).trans rfl, (zb BK290.out 0).trans rfl, (zb BK290.out 1).trans rfl, (zb BK290.out 2).trans rfl, (zb BK290.out 3).trans rfl⟩ (fun hHeld => ?_)
          clear hK K
          refine vS (a' := ?_) ?_ ?_
          rotate_left
          ·show Act.put _ (some 38) _ = _; simp only [Act.put, List.setIfInBounds_toArray, List.set_cons_zero, List.set_cons_succ, zd, ze]; rfl
          refine zt (i := 8) (N := some 39) (v := ?_) (a' := ?_) #[true, true, true, true, true, true, true, true, true, false] rfl rfl (zl HT_.out (by kernel_rfl)) (fun _ _ _ h => h) (Or.inl ⟨by rfl, ?_⟩) ?_ ?_
          rotate_left
          ·intro w'; go_simp; with_reducible rfl
          rotate_left
          ·simp only [Act.put, List.setIfInBounds_toArray, List.set_cons_zero, List.set_cons_succ, zd, ze]; rfl
          refine vQ (i := 9) (N := none) #[true, true, true, true, true, true, true, true, true, true] rfl rfl (q4 HT_.out (by kernel_rfl)) (by decide) (fun K hK => ?_)
          have hs27 : w25.cell? ⟨gb295, 3, none⟩ = some (u296003) := (zb BK295.out 3).trans rfl
          have hfs27 := za BK295.out 3
          have hns27_0 := NB290_295.out
          have hns27_1 := NB291_295.out
          have hms27_0 := NB295_290.out
          have hms27_1 := NB295_291.out
          refine vA (w1 := ?_) (by rfl) rfl ?_ ?_
          rotate_left
          ·go_simp
           rfl
          refine hK.out _ _ ?_
          clear hK K
          refine vl (jk HT_.out (by kernel_rfl)) ?_
          try go_wp2
          go_roundg k2
          case measure => have := HK1.out; have := HK2.out; omega
          case rel => exact ⟨(wrap64 (x27_2 + 1)), (y298), (.slice Ao26 y298.length co26), (sqD), H', ⟨by have := HK1.out; have := HK2.out; omega⟩, ⟨by refine sqR ?_; exact Kd.zE (Kd.zv (p := ⟨gb295, 3, none⟩) (Kd.zQ HO_5.out BK295.out (by decide)) (fun _ hk => hk.2) (.slice Ao26 y298.length co26)) (fun _ hk => hk.1.2)⟩, ⟨by refine sqR ?_; exact Kd.zE (Kd.zv (p := ⟨gb295, 3, none⟩) (Kd.zQ HO_25.out BK295.out (by decide)) (fun _ hk => hk.2) (.slice Ao26 y298.length co26)) (fun _ hk => hk.1.2)⟩, ⟨by refine sqR ?_; exact Kd.zE (Kd.zv (p := ⟨gb295, 3, none⟩) (Kd.zQ HO300.out BK295.out (by decide)) (fun _ hk => hk.2) (.slice Ao26 y298.length co26)) (fun _ hk => by first | exact ⟨hk.1.1, hk.1.2⟩ | (refine ⟨?_, ?_⟩ <;> intro e_ <;> simp only [e_, ne_eq, not_true_eq_false, and_false, false_and] at hk))⟩, ⟨by refine sqK ?_; refine zw ?_ NB290_295.out _; refine sqK ?_; exact BK290.out⟩, ⟨by refine sqK ?_; refine zw ?_ NB291_295.out _; refine sqK ?_; exact BK291.out⟩, ⟨by refine sqK ?_; refine zD (cs := #[.int .i64 a0_0, .int .i64 a0_1, .int .i64 (t292.length : Int), u296003]) ?_ 3 _ rfl; refine sqK ?_; exact BK295.out⟩, ⟨sqB⟩⟩
         ·rw [if_neg c22] at H
          exact absurd H (by simp)
        ·rw [if_neg c20] at H
         exact absurd H (by simp)
       ·rw [if_neg c19] at H
        exact absurd H (by simp)
      ·rw [if_neg c18] at H
       have c18b0 : decide (x27_2 < (t292.length : Int)) = false := decide_eq_false c18
       clear c18
       have H' := Aside0.mk H
       clear H
       go_wp2
       go_roundg k2
       case measure => have := HK1.out; have := HK2.out; omega
       case rel => exact ⟨(wrap64 (x7_1 + 1)), (x296003_2), (u296003), (sqD), H', ⟨by have := HK1.out; have := HK2.out; omega⟩, ⟨sqR HO_5.out⟩, ⟨by refine sqR ?_; exact Kd.zE HO_296003.out (fun _ hk => hk.1)⟩, ⟨sqK BK290.out⟩, ⟨sqK BK291.out⟩, ⟨sqK BK295.out⟩, ⟨sqB⟩⟩
   ·rw [if_neg c14] at H
    have c14b0 : decide (x7_1 < a0_1) = false := decide_eq_false c14
    clear c14
    simp only [Option.some.injEq, Prod.mk.injEq] at H
    obtain ⟨rfl, rfl, rfl, rfl⟩ := H
    have hnb28 := NB290_291.out
    have hnc28 := NB291_290.out
    have hnb29 := NB290_295.out
    have hnc29 := NB295_290.out
    have hcz30_0 : wr.cell? ⟨gb290, 0, none⟩ = some (.int .i64 a0_0) := (zb BK290.out 0).trans rfl
    have hcz30_1 : wr.cell? ⟨gb290, 1, none⟩ = some (.int .i64 a0_1) := (zb BK290.out 1).trans rfl
    have hcz30_2 : wr.cell? ⟨gb290, 2, none⟩ = some (.int .i64 a0_2) := (zb BK290.out 2).trans rfl
    have hcz30_3 : wr.cell? ⟨gb290, 3, none⟩ = some (.slice A0_3 l0_3.length c0_3) := (zb BK290.out 3).trans rfl
    have hfz30_0 := za BK290.out 0; have hfz30_1 := za BK290.out 1; have hfz30_2 := za BK290.out 2; have hfz30_3 := za BK290.out 3
    have hnb31 := NB295_291.out
    have hnc31 := NB291_295.out
    have hcz32_0 : wr.cell? ⟨gb295, 0, none⟩ = some (.int .i64 a0_0) := (zb BK295.out 0).trans rfl
    have hcz32_1 : wr.cell? ⟨gb295, 1, none⟩ = some (.int .i64 a0_1) := (zb BK295.out 1).trans rfl
    have hcz32_2 : wr.cell? ⟨gb295, 2, none⟩ = some (.int .i64 (t292.length : Int)) := (zb BK295.out 2).trans rfl
    have hcz32_3 : wr.cell? ⟨gb295, 3, none⟩ = some (u296003) := (zb BK295.out 3).trans rfl
    have hfz32_0 := za BK295.out 0; have hfz32_1 := za BK295.out 1; have hfz32_2 := za BK295.out 2; have hfz32_3 := za BK295.out 3
    have hcz33_0 : wr.cell? ⟨gb291, 0, none⟩ = some (.int .i64 0) := (zb BK291.out 0).trans rfl
    have hcz33_1 : wr.cell? ⟨gb291, 1, none⟩ = some (.int .i64 0) := (zb BK291.out 1).trans rfl
    have hcz33_2 : wr.cell? ⟨gb291, 2, none⟩ = some (.int .i64 0) := (zb BK291.out 2).trans rfl
    have hcz33_3 : wr.cell? ⟨gb291, 3, none⟩ = some (.slice none 0 0) := (zb BK291.out 3).trans rfl
    have hfz33_0 := za BK291.out 0; have hfz33_1 := za BK291.out 1; have hfz33_2 := za BK291.out 2; have hfz33_3 := za BK291.out 3
    obtain ⟨Ao34, co34, eo34⟩ := Kd.qb HO_296003.out
    subst eo34
    go_wp2
    refine bodyPost_ret (results_cell_row rfl _ _ gb291 27 #[.int .i64 a0_0, .int .i64 a0_1, .int .i64 (t292.length : Int), .slice Ao34 x296003_1.length co34] (0, 0) _ rfl (by refine sqK ?_; refine zD (cs := #[.int .i64 a0_0, .int .i64 a0_1, .int .i64 (t292.length : Int), .slice none 0 0]) ?_ 3 _ rfl; refine sqK ?_; refine zD (cs := #[.int .i64 a0_0, .int .i64 a0_1, .int .i64 0, .slice none 0 0]) ?_ 2 _ rfl; refine sqK ?_; refine zD (cs := #[.int .i64 a0_0, .int .i64 0, .int .i64 0, .slice none 0 0]) ?_ 1 _ rfl; refine sqK ?_; refine zD (cs := #[.int .i64 0, .int .i64 0, .int .i64 0, .slice none 0 0]) ?_ 0 _ rfl; refine sqK ?_; exact BK291.out) Try.underlying27 rfl (by kernel_rfl)) rfl ?_
    exact ⟨_, sqE, by refine sqR ?_; exact Kd.zE (Kd.zv (p := ⟨gb291, 3, none⟩) (Kd.zv (p := ⟨gb291, 2, none⟩) (Kd.zv (p := ⟨gb291, 1, none⟩) (Kd.zv (p := ⟨gb291, 0, none⟩) (Kd.zQ HO_296003.out BK291.out (by decide)) (fun _ hk => hk.2) (.int .i64 a0_0)) (fun _ hk => hk.2) (.int .i64 a0_1)) (fun _ hk => hk.2) (.int .i64 (t292.length : Int))) (fun _ hk => hk.2) (.slice Ao34 x296003_1.length co34)) (fun _ hk => trivial), sqB⟩

end Go.Proofs.Ytopkfhnnapncgaa.F
end
section
namespace Go.Proofs.Ytopkfhnnapncgaa.L
open Go.RowKit Go.Proofs.Ytopkfhnnapncgaa.F Go.Proofs.YtopkfhnnapncgaaW.PrintWords Go.Proofs.YtopkfhnnapncgaaW.PrintLast Go.Proofs.YtopkfhnnapncgaaW.PrintMore
open Go.Proofs.Ytopkfhnnapncgaa.Bits
open Go.Proofs.Ytopkfhnnapncgaa.Mt (sdiff y4 elems Qm)

theorem l1In (x a b : Int) : zy.f x a b = some (decide (a ≤ x ∧ x ≤ b)) := by
  unfold zy.f
  split <;> simp <;> omega

theorem QH (n : Int) : zU.f n = some (decide (0 ≤ n ∧ n ≤ 8)) := by
  unfold zU.f
  split <;> simp <;> omega
end Go.Proofs.Ytopkfhnnapncgaa.L
end
section
namespace Go.Proofs.Ytopkfhnnapncgaa.L
open Go.RowKit Go.Proofs.Ytopkfhnnapncgaa.F Go.Proofs.YtopkfhnnapncgaaW.PrintWords Go.Proofs.YtopkfhnnapncgaaW.PrintLast Go.Proofs.YtopkfhnnapncgaaW.PrintMore
open Go.Proofs.Ytopkfhnnapncgaa.Bits
set_option linter.unusedSimpArgs false
def isField (p : Int) : Bool := decide (p = 2 ∨ p = 3 ∨ p = 5 ∨ p = 7)
theorem Qh (p : Int) : qg.f p = some (isField p) := by
  unfold qg.f isField
  by_cases h2 : p = 2
  · simp [h2]
  by_cases h3 : p = 3
  · simp [h3]
  by_cases h5 : p = 5
  · simp [h5]
  rw [if_neg h2, if_neg h3, if_neg h5]
  simp only [h2, h3, h5, false_or]
  rfl
theorem Qd (p : Int) : zP.f p = some (isField p) := by
  unfold zP.f isField
  by_cases h2 : p = 2
  · simp [h2]
  by_cases h3 : p = 3
  · simp [h3]
  by_cases h5 : p = 5
  · simp [h5]
  rw [if_neg h2, if_neg h3, if_neg h5]
  simp only [h2, h3, h5, false_or]
  rfl
/-- What a matrix is. -/
def qX (p r c : Int) (l : List Int) : Bool :=
  isField p && decide (0 ≤ r ∧ r ≤ 8 ∧ 0 ≤ c ∧ c ≤ 8 ∧ (l.length : Int) = r * c) && l.all fun x => decide (0 ≤ x ∧ x < p)
theorem qN {p r c : Int} {l : List Int} (h : ¬ (isField p = true ∧ 0 ≤ r ∧ r ≤ 8 ∧ 0 ≤ c ∧ c ≤ 8 ∧ (l.length : Int) = r * c)) : qX p r c l = false := by
  unfold qX
  cases hp : isField p
  · simp
  · have : ¬ (0 ≤ r ∧ r ≤ 8 ∧ 0 ≤ c ∧ c ≤ 8 ∧ (l.length : Int) = r * c) := fun hh => h ⟨hp, hh⟩
    simp only [this, decide_false, Bool.and_false, Bool.false_and]
theorem yf {r c : Int} (hr : 0 ≤ r ∧ r ≤ 8) (hc : 0 ≤ c ∧ c ≤ 8) : 0 ≤ r * c ∧ r * c ≤ 64 :=
  ⟨Int.mul_nonneg hr.1 hc.1, by have := Int.mul_le_mul hr.2 hc.2 hc.1 (by omega : (0 : Int) ≤ 8); omega⟩
theorem vL {p r c : Int} {l : List Int} (h : isField p = true ∧ 0 ≤ r ∧ r ≤ 8 ∧ 0 ≤ c ∧ c ≤ 8 ∧ (l.length : Int) = r * c) : qX p r c l = l.all fun x => decide (0 ≤ x ∧ x < p) := by
  unfold qX; simp only [h.1, h.2, and_self, decide_true, Bool.and_self, Bool.true_and]
theorem je {p : Int} (h : isField p = true) : 2 ≤ p ∧ p ≤ 7 := by
  have : p = 2 ∨ p = 3 ∨ p = 5 ∨ p = 7 := of_decide_eq_true h
  omega
theorem ZI (p r c : Int) (l : List Int) : Ev (fun k => zm.f k p r c l) (qX p r c l) := by
  have no : ∀ p r c l, Ev (fun k => zm.j0 k true p r c l) false := fun p r c l => Ev.succ (by simp only [zm.j0, if_true]; exact Ev.now _)
  unfold zm.f
  simp only [l1In, Qd, Option.bind_some, decide_eq_true_eq]
  by_cases hp : isField p = true
  · simp only [hp, if_true]
    by_cases hr : 0 ≤ r ∧ r ≤ 8
    · simp only [hr, and_self, if_true]
      by_cases hc : 0 ≤ c ∧ c ≤ 8
      · simp only [hc, and_self, if_true]
        have hm := yf hr hc
        have hw : wrap64 (r * c) = r * c := qU (by omega) (by omega)
        rw [hw]
        by_cases he : (l.length : Int) = r * c
        · rw [show ((l.length : Int) != r * c) = false by simp [he], vL ⟨hp, hr.1, hr.2, hc.1, hc.2, he⟩]
          have hp2 := je hp
          refine Ev.succ ?_
          simp only [zm.j0, Bool.false_eq_true, if_false]
          rw [← vD l 0]
          refine yd (fun k i => zm.l0 k i p r c l) _ _ (fun k => by simp only [zm.l0, show ¬ ((l.length : Int) < (l.length : Int)) by omega, if_false]) ?_
          intro i hi k
          have hw : wrap64 (p - 1) = p - 1 := qU (by omega) (by omega)
          simp only [zm.l0, show ((i : Int) < (l.length : Int)) by omega, show (0 : Int) ≤ (i : Int) by omega, if_true, qI, qd (show i < 9223372036854775807 by omega), l1In, hw, Option.bind_some, decide_eq_true_eq]
          generalize l.getD i 0 = x
          by_cases h1 : 0 ≤ x ∧ x ≤ p - 1
          · rw [if_pos h1, if_pos (by omega)]
          · rw [if_neg h1, if_neg (by omega)]
        · rw [show ((l.length : Int) != r * c) = true by simp [he], qN (fun hh => he hh.2.2.2.2.2)]; exact no _ _ _ _
      · simp only [hc, if_false]; rw [qN (fun hh => hc ⟨hh.2.2.2.1, hh.2.2.2.2.1⟩)]; exact no _ _ _ _
    · simp only [hr, if_false]; rw [qN (fun hh => hr ⟨hh.2.1, hh.2.2.1⟩)]; exact no _ _ _ _
  · simp only [hp, if_false]; rw [qN (fun hh => hp hh.1)]; exact no _ _ _ _
theorem ZL (p r c : Int) (l : List Int) : Ev (fun k => zn.f k p r c l) (qX p r c l) := by
  have no : ∀ p r c l, Ev (fun k => zn.j0 k true p r c l) false := fun p r c l => Ev.succ (by simp only [zn.j0, if_true]; exact Ev.now _)
  unfold zn.f
  simp only [QH, Qh, Option.bind_some, decide_eq_true_eq]
  by_cases hp : isField p = true
  · simp only [hp, if_true]
    by_cases hr : 0 ≤ r ∧ r ≤ 8
    · simp only [hr, and_self, if_true]
      by_cases hc : 0 ≤ c ∧ c ≤ 8
      · simp only [hc, and_self, if_true]
        have hm := yf hr hc
        have hw : wrap64 (r * c) = r * c := qU (by omega) (by omega)
        rw [hw]
        by_cases he : (l.length : Int) = r * c
        · rw [show ((l.length : Int) != r * c) = false by simp [he], vL ⟨hp, hr.1, hr.2, hc.1, hc.2, he⟩]
          refine Ev.succ ?_
          simp only [zn.j0, Bool.false_eq_true, if_false]
          rw [← vD l 0]
          refine yd (fun k i => zn.l0 k l (l.length : Int) i p r c l) _ _ (fun k => by simp only [zn.l0, show ¬ ((l.length : Int) < (l.length : Int)) by omega, if_false]) ?_
          intro i hi k
          simp only [zn.l0, show ((i : Int) < (l.length : Int)) by omega, show (0 : Int) ≤ (i : Int) by omega, if_true, qI, qd (show i < 9223372036854775807 by omega), decide_eq_true_eq]
          generalize l.getD i 0 = x
          by_cases h1 : x < 0
          · rw [if_pos h1, if_neg (by omega)]
          rw [if_neg h1]
          by_cases h2 : x ≥ p
          · rw [if_pos h2, if_neg (by omega)]
          rw [if_neg h2, if_pos (by omega)]
        · rw [show ((l.length : Int) != r * c) = true by simp [he], qN (fun hh => he hh.2.2.2.2.2)]; exact no _ _ _ _
      · simp only [hc, if_false]; rw [qN (fun hh => hc ⟨hh.2.2.2.1, hh.2.2.2.2.1⟩)]; exact no _ _ _ _
    · simp only [hr, if_false]; rw [qN (fun hh => hr ⟨hh.2.1, hh.2.2.1⟩)]; exact no _ _ _ _
  · simp only [hp, if_false]; rw [qN (fun hh => hp hh.1)]; exact no _ _ _ _
theorem vP (p r c : Int) (l : List Int) (h : l.length ≤ 17592186044416) : Ev (fun k => zF.f k p r c l) (p, r, c, l) := by
  unfold zF.f
  exact Ev.bind (Jl l h) (Ev.now _)
theorem vT (p r c : Int) (l : List Int) (p' r' c' : Int) (l' : List Int) (h : l.length ≤ 17592186044416) : Ev (fun k => zu.f k p r c l p' r' c' l') (decide ((p, r, c, l) = (p', r', c', l'))) := by
  unfold zu.f
  by_cases h1 : p = p'
  · by_cases h2 : r = r'
    · by_cases h3 : c = c'
      · simp only [h1, h2, h3, if_true]
        refine Ev.bind (Jh l l' h) ?_
        by_cases h4 : l = l'
        · simp only [h4, decide_true, if_true]; exact Ev.now _
        · simp only [h4, decide_false, Bool.false_eq_true, if_false]; simp only [Prod.mk.injEq, h4, and_false, decide_false]; exact Ev.now _
      · simp only [h1, h2, h3, if_true, if_false, Prod.mk.injEq, and_false, false_and, decide_false]; exact Ev.now _
    · simp only [h1, h2, if_true, if_false, Prod.mk.injEq, and_false, false_and, decide_false]; exact Ev.now _
  · simp only [h1, if_false, Prod.mk.injEq, false_and, decide_false]; exact Ev.now _
theorem QC (p r c : Int) (l : List Int) (n : Int) (h : l.length ≤ 17592186044416) (h0 : 0 ≤ n) (h1 : n ≤ 1048576) : ∃ m, qB.f p r c l n = some m ∧ (m < 0 ∨ (0 ≤ m ∧ m ≤ 1048576 ∧ l.length ≤ 1048576)) := by
  unfold qB.f
  rw [JK l n h h0 h1]
  simp only [Option.bind_some]
  by_cases hn : n < (l.length : Int)
  · rw [if_pos hn, if_pos (by decide)]
    exact ⟨_, rfl, .inl (by decide)⟩
  · rw [if_neg hn, if_neg (by omega)]
    exact ⟨_, rfl, .inr (by omega)⟩
end Go.Proofs.Ytopkfhnnapncgaa.L
end
section
namespace Go.Proofs.Ytopkfhnnapncgaa.L
open Go.RowKit Go.Proofs.Ytopkfhnnapncgaa.F Go.Proofs.YtopkfhnnapncgaaW.PrintWords Go.Proofs.YtopkfhnnapncgaaW.PrintLast Go.Proofs.YtopkfhnnapncgaaW.PrintMore
open Go.Proofs.Ytopkfhnnapncgaa.Bits
set_option linter.unusedSimpArgs false
set_option linter.unusedVariables false
/-- What a matrix holds, in natural numbers' places. -/
theorem j7 {p r c : Int} {l : List Int} (h : qX p r c l = true) : ∃ R C : Nat, r = R ∧ c = C ∧ R ≤ 8 ∧ C ≤ 8 ∧ l.length = R * C ∧ 2 ≤ p ∧ p ≤ 7 ∧ isField p = true ∧ ∀ x ∈ l, 0 ≤ x ∧ x < p := by
  unfold qX at h
  simp only [Bool.and_eq_true, decide_eq_true_eq] at h
  obtain ⟨⟨h1, h2, h3, h4, h5, h6⟩, h7⟩ := h
  obtain ⟨R, rfl⟩ := Int.eq_ofNat_of_zero_le h2
  obtain ⟨C, rfl⟩ := Int.eq_ofNat_of_zero_le h4
  have := je h1
  refine ⟨R, C, rfl, rfl, by omega, by omega, ?_, this.1, this.2, h1, fun x hx => ?_⟩
  · have : ((l.length : Nat) : Int) = ((R * C : Nat) : Int) := by rw [h6]; simp
    omega
  · have := List.all_eq_true.1 h7 x hx; simpa using this
/-- The index of a cell, as1 the program computes it. -/
theorem qZ {i C j : Nat} (hi : i ≤ 8) (hC : C ≤ 8) (hj : j ≤ 8) : wrap64 ((wrap64 ((i : Int) * (C : Int))) + (j : Int)) = ((i * C + j : Nat) : Int) := by
  have h : i * C ≤ 8 * 8 := Nat.mul_le_mul hi hC
  have e : (i : Int) * (C : Int) = ((i * C : Nat) : Int) := by simp
  rw [e, qU (n := ((i * C : Nat) : Int)) (by omega) (by omega), qU (by omega) (by omega)]; omega
theorem Q1 {l : List Int} {p : Int} (hp : 2 ≤ p) (h : ∀ x ∈ l, 0 ≤ x ∧ x < p) (i : Nat) : 0 ≤ l.getD i 0 ∧ l.getD i 0 < p := by
  by_cases hi : i < l.length
  · have := h l[i] (List.getElem_mem hi); simpa [List.getElem?_eq_getElem hi] using this
  · simp [List.getElem?_eq_none (Nat.le_of_not_lt hi)]; omega
end Go.Proofs.Ytopkfhnnapncgaa.L
end
section
namespace Go.Proofs.Ytopkfhnnapncgaa.L
open Go.RowKit Go.Proofs.Ytopkfhnnapncgaa.F Go.Proofs.YtopkfhnnapncgaaW.PrintWords Go.Proofs.YtopkfhnnapncgaaW.PrintLast Go.Proofs.YtopkfhnnapncgaaW.PrintMore
open Go.Proofs.Ytopkfhnnapncgaa.Bits
set_option linter.unusedSimpArgs false
set_option linter.unusedVariables false
theorem Qc : ∀ k : Nat, (zr.f (k + 20) 2 1 = some 1 ∧ zp.f (k + 20) 2 1 = some 1) ∧
    (zr.f (k + 20) 3 1 = some 1 ∧ zp.f (k + 20) 3 1 = some 1) ∧ (zr.f (k + 20) 3 2 = some 2 ∧ zp.f (k + 20) 3 2 = some 2) ∧
    (zr.f (k + 20) 5 1 = some 1 ∧ zp.f (k + 20) 5 1 = some 1) ∧ (zr.f (k + 20) 5 2 = some 3 ∧ zp.f (k + 20) 5 2 = some 3) ∧ (zr.f (k + 20) 5 3 = some 2 ∧ zp.f (k + 20) 5 3 = some 2) ∧ (zr.f (k + 20) 5 4 = some 4 ∧ zp.f (k + 20) 5 4 = some 4) ∧
    (zr.f (k + 20) 7 1 = some 1 ∧ zp.f (k + 20) 7 1 = some 1) ∧ (zr.f (k + 20) 7 2 = some 4 ∧ zp.f (k + 20) 7 2 = some 4) ∧ (zr.f (k + 20) 7 3 = some 5 ∧ zp.f (k + 20) 7 3 = some 5) ∧ (zr.f (k + 20) 7 4 = some 2 ∧ zp.f (k + 20) 7 4 = some 2) ∧ (zr.f (k + 20) 7 5 = some 3 ∧ zp.f (k + 20) 7 5 = some 3) ∧ (zr.f (k + 20) 7 6 = some 6 ∧ zp.f (k + 20) 7 6 = some 6) :=
  fun k => ⟨⟨by kernel_rfl, by kernel_rfl⟩, ⟨by kernel_rfl, by kernel_rfl⟩, ⟨by kernel_rfl, by kernel_rfl⟩, ⟨by kernel_rfl, by kernel_rfl⟩, ⟨by kernel_rfl, by kernel_rfl⟩, ⟨by kernel_rfl, by kernel_rfl⟩, ⟨by kernel_rfl, by kernel_rfl⟩, ⟨by kernel_rfl, by kernel_rfl⟩, ⟨by kernel_rfl, by kernel_rfl⟩, ⟨by kernel_rfl, by kernel_rfl⟩, ⟨by kernel_rfl, by kernel_rfl⟩, ⟨by kernel_rfl, by kernel_rfl⟩, ⟨by kernel_rfl, by kernel_rfl⟩⟩
theorem Zp {p a : Int} (hp : isField p = true) (ha : 1 ≤ a) (hap : a < p) : ∀ k, zr.f (k + 20) p a = some (jU p a) ∧ zp.f (k + 20) p a = some (jU p a) := fun k => by
  obtain ⟨h1, h2, h3, h4, h5, h6, h7, h8, h9, h10, h11, h12, h13⟩ := Qc k
  have hp : p = 2 ∨ p = 3 ∨ p = 5 ∨ p = 7 := by simpa [isField] using hp
  rcases hp with rfl | rfl | rfl | rfl
  · obtain rfl : a = 1 := by omega
    exact h1
  · rcases (show a = 1 ∨ a = 2 by omega) with rfl | rfl <;> assumption
  · rcases (show a = 1 ∨ a = 2 ∨ a = 3 ∨ a = 4 by omega) with rfl | rfl | rfl | rfl <;> assumption
  · rcases (show a = 1 ∨ a = 2 ∨ a = 3 ∨ a = 4 ∨ a = 5 ∨ a = 6 by omega) with rfl | rfl | rfl | rfl | rfl | rfl <;> assumption
theorem J6 {p a : Int} (hp : isField p = true) (ha : 1 ≤ a) (hap : a < p) : Ev (fun k => zr.f k p a) (jU p a) :=
  ⟨20, fun k hk => by obtain ⟨m, rfl⟩ := Nat.exists_eq_add_of_le hk; rw [Nat.add_comm]; exact (Zp hp ha hap m).1⟩
theorem J1 {p a : Int} (hp : isField p = true) (ha : 1 ≤ a) (hap : a < p) : Ev (fun k => zp.f k p a) (jU p a) :=
  ⟨20, fun k hk => by obtain ⟨m, rfl⟩ := Nat.exists_eq_add_of_le hk; rw [Nat.add_comm]; exact (Zp hp ha hap m).2⟩
theorem yc {x y : Int} (hx : 0 ≤ x ∧ x ≤ 7) (hy : 0 ≤ y ∧ y ≤ 7) : 0 ≤ x * y ∧ x * y ≤ 64 := yf ⟨hx.1, by omega⟩ ⟨hy.1, by omega⟩
theorem wrap_mul {x y : Int} (hx : 0 ≤ x ∧ x ≤ 7) (hy : 0 ≤ y ∧ y ≤ 7) : wrap64 (x * y) = x * y := qU (by have := yc hx hy; omega) (by have := yc hx hy; omega)
theorem Ql {p g : Int} (hp : 2 ≤ p ∧ p ≤ 7) (hg : 0 ≤ g ∧ g < p) : wrap64 (p - g) = p - g := qU (by omega) (by omega)
theorem yU {x p g y : Int} (hp : 2 ≤ p ∧ p ≤ 7) (hx : 0 ≤ x ∧ x < p) (hg : 0 ≤ g ∧ g < p) (hy : 0 ≤ y ∧ y < p) : wrap64 (x + wrap64 (wrap64 (p - g) * y)) = x + (p - g) * y := by
  rw [Ql hp hg, wrap_mul ⟨by omega, by omega⟩ ⟨hy.1, by omega⟩]
  have := yc (x := p - g) (y := y) ⟨by omega, by omega⟩ ⟨hy.1, by omega⟩
  exact qU (by omega) (by omega)
theorem Qt (M : Tab) (a b j : Nat) : upd (upd M a j (M b j)) b j (M a j) = qH (jm a b) M j := by
  funext i c
  unfold upd qH jm
  by_cases h1 : c = j
  · subst h1
    by_cases h2 : i = b
    · subst h2; simp
    · by_cases h3 : i = a
      · subst h3; simp [h2]
      · simp [h2, h3]
  · simp [h1]
theorem y8 (M : Tab) (p : Int) (r j : Nat) (x : Int) : upd M r j (Int.tmod (M r j * x) p) = qH (jo p r x) M j := by
  funext i c
  unfold upd qH jo
  by_cases h1 : c = j
  · subst h1
    by_cases h2 : i = r
    · subst h2; simp
    · simp [h2]
  · simp [h1]
theorem Zt (M : Tab) (p : Int) (r i0 j : Nat) (g : Int) : upd M i0 j (Int.tmod (M i0 j + (p - g) * M r j) p) = qH (yD p r i0 g) M j := by
  funext i c
  unfold upd qH yD
  by_cases h1 : c = j
  · subst h1
    by_cases h2 : i = i0
    · subst h2; simp
    · simp [h2]
  · simp [h1]
/-- What a fold by columns leaves alone is in the field still. -/
theorem j6 {p : Int} {R C : Nat} {F : (Nat → Int) → Nat → Int} (hF : ∀ M : Tab, InF p R C M → InF p R C (qt F M)) {M : Tab} (h : InF p R C M) {j : Nat} (hj : j < C) : InF p R C (qH F M j) := fun i c hi hc => by
  unfold qH
  split
  · exact hF M h i j hi hj
  · exact h i c hi hc
section
variable {p : Int} {R C : Nat} (hR : R ≤ 8) (hC : C ≤ 8) (hf : isField p = true)
include hR hC
theorem Jt {a b : Nat} (ha : a < R) (hb : b < R) (M : Tab) : Ev (fun k => zH.f k p R C (zW M R C) a b) (zW (qt (jm a b) M) R C) := by
  unfold zH.f
  have key := jn (fun k (M : Tab) j => zH.l0 k a b j p R C (zW M R C)) C (fun M j => qH (jm a b) M j) (fun _ _ => True) (fun M => zW M R C)
    (fun M _ => by simp only [zH.l0, show ¬ ((C : Int) < (C : Int)) by omega, if_false]; exact Ev.now _)
    (fun j M hj _ => ⟨trivial, fun r hr => by
      have h1 := jF ha hj
      have h2 := jF hb hj
      simp only [zH.l0, show ((j : Int) < (C : Int)) by omega, if_true, qZ (show a ≤ 8 by omega) hC (show j ≤ 8 by omega), qZ (show b ≤ 8 by omega) hC (show j ≤ 8 by omega), qn, Int.toNat_natCast, qI, qO M ha hj, qO M hb hj,
        show (0 : Int) ≤ ((a * C + j : Nat) : Int) by omega, show ((a * C + j : Nat) : Int) < ((R * C : Nat) : Int) by omega, show (0 : Int) ≤ ((b * C + j : Nat) : Int) by omega, show ((b * C + j : Nat) : Int) < ((R * C : Nat) : Int) by omega, qd (show j < 9223372036854775807 by omega), j9 _ ha hj, j9 _ hb hj, Qt]
      exact hr⟩) M trivial
  rw [j8] at key
  exact key
include hf
theorem QW {t col : Nat} (ht : t < R) (hc : col < C) {M : Tab} (hM : InF p R C M) (hx : M t col ≠ 0) : Ev (fun k => zi.f k p R C (zW M R C) t col) (zW (vG p R t col M) R C) := by
  have hp := je hf
  have h1 := jF ht hc
  have hv := hM t col ht hc
  unfold zi.f
  simp only [qZ (show t ≤ 8 by omega) hC (show col ≤ 8 by omega), qn, show (0 : Int) ≤ ((t * C + col : Nat) : Int) by omega, show ((t * C + col : Nat) : Int) < ((R * C : Nat) : Int) by omega, if_true, qI, qO M ht hc]
  refine Ev.bind (J6 hf (show 1 ≤ M t col by omega) hv.2) ?_
  have hi0 := vo p (M t col)
  have hi1 := Z1 hp.1 (M t col)
  have l1 := jr (fun k (M' : Tab) j => zi.l0 k t col (jU p (M t col)) j p R C (zW M' R C)) C (fun M' j => qH (jo p t (jU p (M t col))) M' j) (fun _ M' => InF p R C M')
    (fun j M' hj hM' => ⟨j6 (fun N hN => hN.scale hp.1 ht hi0) hM' hj, fun r hr => by
      have h2 := jF ht hj
      have hb := hM' t j ht hj
      simp only [zi.l0, show ((j : Int) < (C : Int)) by omega, if_true, qZ (show t ≤ 8 by omega) hC (show j ≤ 8 by omega), qn, Int.toNat_natCast, qI, qO M' ht hj,
        show (0 : Int) ≤ ((t * C + j : Nat) : Int) by omega, show ((t * C + j : Nat) : Int) < ((R * C : Nat) : Int) by omega, qd (show j < 9223372036854775807 by omega), show ¬ p = 0 by omega, if_false,
        wrap_mul (x := M' t j) (y := jU p (M t col)) ⟨by omega, by omega⟩ ⟨by omega, by omega⟩, j9 _ ht hj, y8]
      exact hr⟩) M hM
  refine l1.2 _ (Ev.succ ?_)
  simp only [zi.l0, show ¬ ((C : Int) < (C : Int)) by omega, if_false]
  rw [j8]
  have hM1 : InF p R C (qt (jo p t (jU p (M t col))) M) := hM.scale hp.1 ht hi0
  show Ev _ (zW (jZ p t col R (qt (jo p t (jU p (M t col))) M)) R C)
  generalize qt (jo p t (jU p (M t col))) M = M1 at hM1
  refine jn (fun k (M' : Tab) i => zi.l1 k t col i p R C (zW M' R C)) R (qG p t col) (fun _ M' => InF p R C M') (fun M' => zW M' R C)
    (fun M' _ => by simp only [zi.l1, show ¬ ((R : Int) < (R : Int)) by omega, if_false]; exact Ev.now _)
    (fun i M' hi hM' => ⟨hM'.qG hp.1 ht hc hi, fun r hr => by
      have h2 := jF hi hc
      have hg := hM' i col hi hc
      simp only [zi.l1, show ((i : Int) < (R : Int)) by omega, if_true, qZ (show i ≤ 8 by omega) hC (show col ≤ 8 by omega), qn, qI, qO M' hi hc, show (0 : Int) ≤ ((i * C + col : Nat) : Int) by omega, show ((i * C + col : Nat) : Int) < ((R * C : Nat) : Int) by omega]
      by_cases hit : i = t
      · subst hit
        rw [qG, if_pos rfl] at hr
        refine Ev.succ ?_
        simp only [zi.l2, show ((0 : Int) < (C : Int)) by omega, if_true, qd (show i < 9223372036854775807 by omega)]
        exact hr
      · rw [qG, if_neg hit] at hr
        generalize M' i col = g at hr hg
        have l2 := jr (fun k (N : Tab) j => zi.l2 k t col i g j p R C (zW N R C)) C (fun N j => qH (yD p t i g) N j) (fun _ N => InF p R C N)
          (fun j N hj hN => ⟨j6 (fun N hN => hN.elim hp.1 ht hi hg) hN hj, fun r hr => by
            have h3 := jF hi hj
            have h4 := jF ht hj
            simp only [zi.l2, show ((j : Int) < (C : Int)) by omega, if_true, show ¬ ((i : Int) = (t : Int)) by omega, if_false, qZ (show i ≤ 8 by omega) hC (show j ≤ 8 by omega), qZ (show t ≤ 8 by omega) hC (show j ≤ 8 by omega), qn, Int.toNat_natCast, qI, qO N hi hj, qO N ht hj,
              show (0 : Int) ≤ ((i * C + j : Nat) : Int) by omega, show ((i * C + j : Nat) : Int) < ((R * C : Nat) : Int) by omega, show (0 : Int) ≤ ((t * C + j : Nat) : Int) by omega, show ((t * C + j : Nat) : Int) < ((R * C : Nat) : Int) by omega, qd (show j < 9223372036854775807 by omega), show ¬ p = 0 by omega,
              yU (x := N i j) (g := g) (y := N t j) hp (hN i j hi hj) hg (hN t j ht hj), j9 _ hi hj, Zt]
            exact hr⟩) M' hM'
        refine l2.2 _ (Ev.succ ?_)
        simp only [zi.l2, show ¬ ((C : Int) < (C : Int)) by omega, if_false, qd (show i < 9223372036854775807 by omega)]
        rw [j8]
        exact hr⟩) M1 hM1
end
end Go.Proofs.Ytopkfhnnapncgaa.L
end
section
namespace Go.Proofs.Ytopkfhnnapncgaa.L
open Go.RowKit Go.Proofs.Ytopkfhnnapncgaa.F Go.Proofs.YtopkfhnnapncgaaW.PrintWords Go.Proofs.YtopkfhnnapncgaaW.PrintLast Go.Proofs.YtopkfhnnapncgaaW.PrintMore
open Go.Proofs.Ytopkfhnnapncgaa.Bits
set_option linter.unusedSimpArgs false
set_option linter.unusedVariables false
section
variable {p : Int} {R C : Nat} (hR : R ≤ 8) (hC : C ≤ 8) (hf : isField p = true)
include hR hC
theorem QD {t j : Nat} (hj : j < C) (M : Tab) (l : List Int) (r : Int × Int × Int × List Int) (h : Ev (fun k => zf.j3 k t j (qi M R t j : Nat) p R C l p R C (zW M R C)) r) :
    ∀ d a, a + d = R → qi M R a j = qi M R t j → Ev (fun k => zf.l1 k t j (a : Nat) p R C l p R C (zW M R C)) r
  | 0, a, ha, he => by
    obtain rfl : a = R := by omega
    rw [jL] at he
    rw [← he] at h
    refine Ev.succ ?_
    simp only [zf.l1, show ¬ ((a : Int) < (a : Int)) by omega, if_false]
    exact h
  | d + 1, a, ha, he => by
    have hlt : a < R := by omega
    have h1 := jF hlt hj
    rw [vJ hlt] at he
    refine Ev.succ ?_
    simp only [zf.l1, show ((a : Int) < (R : Int)) by omega, if_true, qZ (show a ≤ 8 by omega) hC (show j ≤ 8 by omega), qn, qI, qO M hlt hj, show (0 : Int) ≤ ((a * C + j : Nat) : Int) by omega, show ((a * C + j : Nat) : Int) < ((R * C : Nat) : Int) by omega, qd (show a < 9223372036854775807 by omega)]
    by_cases c : M a j = 0
    · rw [if_pos c] at he
      simp only [c, if_true]
      exact QD hj M l r h d (a + 1) (by omega) he
    · rw [if_neg c] at he
      simp only [c, if_false]
      rw [← he] at h
      exact h
include hf
theorem JW (l : List Int) : ∀ d j (s : Red), j + d = C → vM p R C s →
    Ev (fun k => zf.l0 k (s.t : Nat) (j : Nat) p R C l p R C (zW s.M R C)) (p, (((List.range' j d).foldl (qw p R) s).t : Int), (C : Int), zW ((List.range' j d).foldl (qw p R) s).M ((List.range' j d).foldl (qw p R) s).t C) := by
  have hp := je hf
  have fin : ∀ (s : Red), vM p R C s → ∀ j : Int, Ev (fun k => zf.j1 k (s.t : Nat) j false p R C l p R C (zW s.M R C)) (p, (s.t : Int), (C : Int), zW s.M s.t C) := fun s hs j => by
    have ht := hs.t_le
    have hm := yf (r := (s.t : Int)) (c := (C : Int)) ⟨by omega, by omega⟩ ⟨by omega, by omega⟩
    have hw : wrap64 ((s.t : Int) * (C : Int)) = ((s.t * C : Nat) : Int) := by rw [qU (by omega) (by omega)]; simp
    have hle : s.t * C ≤ R * C := Nat.mul_le_mul_right _ ht
    have hRC : R * C ≤ 64 := Nat.le_trans (Nat.mul_le_mul hR hC) (by decide)
    refine Ev.succ ?_
    simp only [zf.j1, Bool.false_eq_true, if_false, Option.bind_some, hw, show (0 : Int) ≤ ((s.t * C : Nat) : Int) by omega, if_true, qn, show ((s.t * C : Nat) : Int) ≤ ((R * C : Nat) : Int) by omega, Int.toNat_natCast, yY s.M ht, List.length_nil, show 0 + s.t * C < 17592186044416 by omega, List.nil_append]
    exact Ev.now _
  intro d
  induction d with
  | zero =>
    intro j s hj hs
    obtain rfl : j = C := by omega
    refine Ev.succ ?_
    simp only [zf.l0, show ¬ ((j : Int) < (j : Int)) by omega, if_false]
    exact fin s hs _
  | succ d ih =>
    intro j s hj hs
    have hjC : j < C := by omega
    refine Ev.succ ?_
    simp only [zf.l0, show ((j : Int) < (C : Int)) by omega, if_true]
    by_cases ht : s.t = R
    · rw [vR _ ht]
      simp only [show decide ((s.t : Int) < (R : Int)) = false from decide_eq_false (by omega)]
      exact fin s hs _
    · have htR : s.t < R := by have := hs.t_le; omega
      simp only [show decide ((s.t : Int) < (R : Int)) = true from decide_eq_true (by omega)]
      refine Ev.succ ?_
      simp only [zf.j1, if_true]
      have ho := hs.step hp.1 hjC
      have hrec := ih (j + 1) (qw p R s j) (by omega) ho
      rw [List.range'_succ, List.foldl_cons]
      refine QD hR hC hjC s.M l _ ?_ (R - s.t) s.t (by omega) rfl
      refine Ev.succ ?_
      obtain ⟨f1, f2, f3, f4⟩ := jE s.M R j (R - s.t) s.t (by omega)
      by_cases c : qi s.M R s.t j = R
      · have he : qw p R s j = s := by unfold qw; rw [if_neg (by omega)]
        rw [he] at hrec ⊢
        simp only [zf.j3, c, if_true, qd (show j < 9223372036854775807 by omega)]
        exact hrec
      · have hlt : qi s.M R s.t j < R := by omega
        have he : qw p R s j = ⟨s.t + 1, vG p R s.t j (qt (jm s.t (qi s.M R s.t j)) s.M), s.ps ++ [(j : Int)]⟩ := by unfold qw; rw [if_pos hlt]
        rw [he] at hrec ⊢
        simp only [zf.j3, show ¬ (((qi s.M R s.t j : Nat) : Int) = (R : Int)) by omega, if_false, qd (show j < 9223372036854775807 by omega), qd (show s.t < 9223372036854775807 by omega)]
        refine Ev.bind (Jt hR hC htR hlt s.M) ?_
        have hsw := hs.inF.swap (M := s.M) htR hlt
        refine Ev.bind (QW hR hC hf htR hjC hsw ?_) hrec
        unfold qt jm
        by_cases c2 : s.t = qi s.M R s.t j
        · rw [if_pos c2]; rw [← c2] at f3; exact f3 htR
        · rw [if_neg c2, if_pos rfl]; exact f3 hlt
end
/-- What the reduced matrix is. -/
def vY (p r c : Int) (l : List Int) : Red := yN p r.toNat c.toNat (jj l c.toNat)
def jR (p r c : Int) (l : List Int) : Int × Int × Int × List Int :=
  if qX p r c l = true then (p, ((vY p r c l).t : Int), c, zW (vY p r c l).M (vY p r c l).t c.toNat) else (0, 0, 0, [])
theorem ye {p : Int} {R C : Nat} {l : List Int} (hl : l.length = R * C) (hp : 2 ≤ p) (hx : ∀ x ∈ l, 0 ≤ x ∧ x < p) : vM p R C ⟨0, jj l C, []⟩ :=
  ⟨Nat.zero_le _, fun i j _ _ => Q1 hp hx _, rfl⟩
theorem yr (p r c : Int) (l : List Int) : Ev (fun k => zf.f k p r c l) (jR p r c l) := by
  unfold zf.f jR
  refine Ev.bind (ZI p r c l) ?_
  cases h : qX p r c l
  · simp only [Bool.false_eq_true, if_false]; exact Ev.now _
  obtain ⟨R, C, rfl, rfl, hR, hC, hl, h2, h7, hf, hx⟩ := j7 h
  have hRC : R * C ≤ 64 := Nat.le_trans (Nat.mul_le_mul hR hC) (by decide)
  simp only [if_true, z8.f, Option.bind_some, List.length_nil, show 0 + l.length < 17592186044416 by omega, List.nil_append]
  have key := JW hR hC hf l C 0 ⟨0, jj l C, []⟩ (by omega) (ye hl h2 hx)
  rw [y7 hl, ← List.range_eq_range'] at key
  unfold vY
  rw [Int.toNat_natCast, Int.toNat_natCast]
  exact key
end Go.Proofs.Ytopkfhnnapncgaa.L
end
section
namespace Go.Proofs.Ytopkfhnnapncgaa.L
open Go.RowKit Go.Proofs.Ytopkfhnnapncgaa.F Go.Proofs.YtopkfhnnapncgaaW.PrintWords Go.Proofs.YtopkfhnnapncgaaW.PrintLast Go.Proofs.YtopkfhnnapncgaaW.PrintMore
open Go.Proofs.Ytopkfhnnapncgaa.Bits
set_option linter.unusedSimpArgs false
set_option linter.unusedVariables false
theorem vF (M : Tab) {R C i : Nat} (hi : i < R) : zB (z1 M R C) (i : Int) = qz M C i := by
  unfold zB; rw [Int.toNat_natCast]; exact vp M hi
theorem ZH (M : Tab) {R C a b : Nat} (ha : a < R) (hb : b < R) : ZB (z1 M R C) (a : Int) (b : Int) = some (z1 (qt (jm a b) M) R C) := by
  unfold ZB
  rw [if_pos ⟨by omega, by rw [qj]; omega, by omega, by rw [qj]; omega⟩]
  simp only [Int.toNat_natCast, vp M ha, vp M hb, Qg M ha hb]
section
variable {p : Int} {R C : Nat} (hR : R ≤ 8) (hC : C ≤ 8) (hf : isField p = true)
include hR
theorem QQ {t j : Nat} (ps : List Int) (hj : j < C) (M : Tab) (l : List Int) (r : Int × Int × Int × List Int × List Int) (h : Ev (fun k => zc.j3 k (z1 M R C) ps j t (qi M R t j : Nat) p R C l) r) :
    ∀ d a, a + d = R → qi M R a j = qi M R t j → Ev (fun k => zc.l2 k (z1 M R C) ps j t (a : Nat) p R C l) r
  | 0, a, ha, he => by
    obtain rfl : a = R := by omega
    rw [jL] at he
    rw [← he] at h
    refine Ev.succ ?_
    simp only [zc.l2, qj, show ¬ ((a : Int) < (a : Int)) by omega, if_false]
    exact h
  | d + 1, a, ha, he => by
    have hlt : a < R := by omega
    rw [vJ hlt] at he
    refine Ev.succ ?_
    simp only [zc.l2, qj, show ((a : Int) < (R : Int)) by omega, if_true, show (0 : Int) ≤ (a : Int) by omega, show (0 : Int) ≤ (j : Int) by omega, vF M hlt, qF, show ((j : Int) < (C : Int)) by omega, qI, jJ M hj, qd (show a < 9223372036854775807 by omega)]
    by_cases c : M a j = 0
    · rw [if_pos c] at he
      simp only [c, if_true]
      exact QQ ps hj M l r h d (a + 1) (by omega) he
    · rw [if_neg c] at he
      simp only [c, if_false]
      rw [← he] at h
      exact h
include hC hf
theorem Q7 {t col : Nat} (ps : List Int) (hps : ps.length ≤ 8) (ht : t < R) (hc : col < C) {M : Tab} (hM : InF p R C M) (hx : M t col ≠ 0) (l : List Int) (r : Int × Int × Int × List Int × List Int)
    (h : Ev (fun k => zc.l1 k (z1 (vG p R t col M) R C) (ps ++ [(col : Int)]) ((col + 1 : Nat) : Int) p R C l) r) :
    Ev (fun k => zc.l3 k (z1 M R C) ps col t (jU p (M t col)) (C : Int) 0 p R C l) r := by
  have hp := je hf
  have hv := hM t col ht hc
  have hi0 := vo p (M t col)
  have hi1 := Z1 hp.1 (M t col)
  have l1 := jr (fun k (M' : Tab) j => zc.l3 k (z1 M' R C) ps col t (jU p (M t col)) (C : Int) j p R C l) C (fun M' j => qH (jo p t (jU p (M t col))) M' j) (fun _ M' => InF p R C M')
    (fun j M' hj hM' => ⟨j6 (fun N hN => hN.scale hp.1 ht hi0) hM' hj, fun r hr => by
      have hb := hM' t j ht hj
      simp only [zc.l3, show ((j : Int) < (C : Int)) by omega, if_true, qj, show (0 : Int) ≤ (t : Int) by omega, show ((t : Int) < (R : Int)) by omega, show (0 : Int) ≤ (j : Int) by omega, vF M' ht, qF, Int.toNat_natCast, qI, jJ M' hj,
        qd (show j < 9223372036854775807 by omega), show ¬ p = 0 by omega, if_false,
        wrap_mul (x := M' t j) (y := jU p (M t col)) ⟨by omega, by omega⟩ ⟨by omega, by omega⟩, yA _ ht hj, y8]
      exact hr⟩) M hM
  refine l1.2 _ (Ev.succ ?_)
  simp only [zc.l3, show ¬ ((C : Int) < (C : Int)) by omega, if_false, qj]
  rw [vO]
  have hM1 : InF p R C (qt (jo p t (jU p (M t col))) M) := hM.scale hp.1 ht hi0
  replace h : Ev (fun k => zc.l1 k (z1 (jZ p t col R (qt (jo p t (jU p (M t col))) M)) R C) (ps ++ [(col : Int)]) ((col + 1 : Nat) : Int) p R C l) r := h
  generalize qt (jo p t (jU p (M t col))) M = M1 at hM1 h ⊢
  have l4 := jr (fun k (M' : Tab) i => zc.l4 k (z1 M' R C) ps col t (R : Int) i p R C l) R (qG p t col) (fun _ M' => InF p R C M')
    (fun i M' hi hM' => ⟨hM'.qG hp.1 ht hc hi, fun r hr => by
      have hg := hM' i col hi hc
      simp only [zc.l4, show ((i : Int) < (R : Int)) by omega, if_true, qj, show (0 : Int) ≤ (i : Int) by omega, show (0 : Int) ≤ (col : Int) by omega, vF M' hi, qF, show ((col : Int) < (C : Int)) by omega, qI, jJ M' hc]
      by_cases hit : i = t
      · subst hit
        rw [qG, if_pos rfl] at hr
        refine Ev.succ ?_
        simp only [zc.l5, show ((0 : Int) < (C : Int)) by omega, if_true, qd (show i < 9223372036854775807 by omega)]
        exact hr
      · rw [qG, if_neg hit] at hr
        generalize M' i col = g at hr hg ⊢
        have l2 := jr (fun k (N : Tab) j => zc.l5 k (z1 N R C) ps col t (i : Int) g j (R : Int) (i : Int) p R C l) C (fun N j => qH (yD p t i g) N j) (fun _ N => InF p R C N)
          (fun j N hj hN => ⟨j6 (fun N hN => hN.elim hp.1 ht hi hg) hN hj, fun r hr => by
            simp only [zc.l5, show ((j : Int) < (C : Int)) by omega, if_true, show ¬ ((i : Int) = (t : Int)) by omega, if_false, qj, show (0 : Int) ≤ (i : Int) by omega, show ((i : Int) < (R : Int)) by omega, show (0 : Int) ≤ (j : Int) by omega, vF N hi, vF N ht, qF, show (0 : Int) ≤ (t : Int) by omega, show ((t : Int) < (R : Int)) by omega, Int.toNat_natCast, qI, jJ N hj,
              qd (show j < 9223372036854775807 by omega), show ¬ p = 0 by omega,
              yU (x := N i j) (g := g) (y := N t j) hp (hN i j hi hj) hg (hN t j ht hj), yA _ hi hj, Zt]
            exact hr⟩) M' hM'
        refine l2.2 _ (Ev.succ ?_)
        simp only [zc.l5, show ¬ ((C : Int) < (C : Int)) by omega, if_false, qd (show i < 9223372036854775807 by omega)]
        rw [vO]
        exact hr⟩) M1 hM1
  refine l4.2 _ (Ev.succ ?_)
  simp only [zc.l4, show ¬ ((R : Int) < (R : Int)) by omega, if_false, show ps.length < 17592186044416 by omega, if_true, qd (show col < 9223372036854775807 by omega)]
  exact h
theorem JL (l : List Int) : ∀ d j (s : Red), j + d = C → vM p R C s →
    Ev (fun k => zc.l1 k (z1 s.M R C) s.ps (j : Nat) p R C l) (p, (((List.range' j d).foldl (qw p R) s).t : Int), (C : Int), zW ((List.range' j d).foldl (qw p R) s).M ((List.range' j d).foldl (qw p R) s).t C, ((List.range' j d).foldl (qw p R) s).ps) := by
  have hp := je hf
  intro d
  induction d with
  | zero =>
    intro j s hj hs
    obtain rfl : j = C := by omega
    have ht := hs.t_le
    have hlen := hs.len
    have hRC : R * j ≤ 64 := Nat.le_trans (Nat.mul_le_mul hR hC) (by decide)
    refine Ev.succ ?_
    simp only [zc.l1, show ¬ ((j : Int) < (j : Int)) by omega, if_false, hlen, show (0 : Int) ≤ (s.t : Int) by omega, if_true, qj, show ((s.t : Int) ≤ (R : Int)) by omega, Option.bind_some, Int.toNat_natCast, Z9 s.M ht]
    refine jn (fun k (x : List Int) i => zc.l6 k s.ps (z1 s.M s.t j) (s.t : Int) i p (s.t : Int) (j : Int) x) s.t (fun x i => x ++ qz s.M j i) (fun i x => x = zW s.M i j) (fun x => (p, (s.t : Int), (j : Int), x, s.ps))
      (fun x hx => by simp only [zc.l6, show ¬ ((s.t : Int) < (s.t : Int)) by omega, if_false]; exact Ev.now _)
      (fun i x hi hx => ⟨by rw [hx]; exact yT s.M j i, fun r hr => by
        have hle : i * j ≤ R * j := Nat.mul_le_mul_right _ (by omega)
        simp only [zc.l6, show ((i : Int) < (s.t : Int)) by omega, if_true, show (0 : Int) ≤ (i : Int) by omega, qj, vF s.M hi, qF, show x.length + j < 17592186044416 by rw [hx, qn]; omega, qd (show i < 9223372036854775807 by omega)]
        exact hr⟩) [] (by simp [zW]) |> fun q => ?_
    have hfold : (List.range s.t).foldl (fun x i => x ++ qz s.M j i) [] = zW s.M s.t j := by
      have : ∀ n, (List.range n).foldl (fun x i => x ++ qz s.M j i) [] = zW s.M n j := fun n => by
        induction n with
        | zero => simp [zW]
        | succ n ih => rw [List.range_succ, List.foldl_append, ih]; exact yT s.M j n
      exact this _
    rw [hfold] at q
    exact q
  | succ d ih =>
    intro j s hj hs
    have hjC : j < C := by omega
    have hlen := hs.len
    have htle := hs.t_le
    refine Ev.succ ?_
    simp only [zc.l1, show ((j : Int) < (C : Int)) by omega, if_true, hlen]
    have ho := hs.step hp.1 hjC
    have hrec := ih (j + 1) (qw p R s j) (by omega) ho
    rw [List.range'_succ, List.foldl_cons]
    obtain ⟨f1, f2, f3, f4⟩ := jE s.M R j (R - s.t) s.t (by omega)
    refine QQ hR s.ps hjC s.M l _ ?_ (R - s.t) s.t (by omega) rfl
    refine Ev.succ ?_
    by_cases c : qi s.M R s.t j = R
    · have he : qw p R s j = s := by unfold qw; rw [if_neg (by omega)]
      rw [he] at hrec ⊢
      simp only [zc.j3, c, qj, show ((R : Int) ≥ (R : Int)) by omega, if_true, qd (show j < 9223372036854775807 by omega)]
      exact hrec
    · have hlt : qi s.M R s.t j < R := by omega
      have htR : s.t < R := by omega
      have he : qw p R s j = ⟨s.t + 1, vG p R s.t j (qt (jm s.t (qi s.M R s.t j)) s.M), s.ps ++ [(j : Int)]⟩ := by unfold qw; rw [if_pos hlt]
      rw [he] at hrec ⊢
      have hsw := hs.inF.swap (M := s.M) htR hlt
      have hne : (qt (jm s.t (qi s.M R s.t j)) s.M) s.t j ≠ 0 := by
        unfold qt jm
        by_cases c2 : s.t = qi s.M R s.t j
        · rw [if_pos c2]; rw [← c2] at f3; exact f3 htR
        · rw [if_neg c2, if_pos rfl]; exact f3 hlt
      simp only [zc.j3, qj, show ¬ (((qi s.M R s.t j : Nat) : Int) ≥ (R : Int)) by omega, if_false, ZH s.M htR hlt, Option.bind_some, show (0 : Int) ≤ (s.t : Int) by omega, show ((s.t : Int) < (R : Int)) by omega, if_true, show (0 : Int) ≤ (j : Int) by omega, vF _ htR, qF, show ((j : Int) < (C : Int)) by omega, qI, jJ _ hjC]
      have hv := hsw s.t j htR hjC
      refine Ev.bind (J1 hf (show 1 ≤ (qt (jm s.t (qi s.M R s.t j)) s.M) s.t j by omega) hv.2) ?_
      exact Q7 hR hC hf s.ps (by omega) htR hjC hsw hne l _ hrec
end
def QU (p : Int) (R C : Nat) (l : List Int) : Int × Int × Int × List Int × List Int :=
  (p, ((yN p R C (jj l C)).t : Int), (C : Int), zW (yN p R C (jj l C)).M (yN p R C (jj l C)).t C, (yN p R C (jj l C)).ps)
theorem QB {p : Int} {R C : Nat} (hR : R ≤ 8) (hC : C ≤ 8) (hf : isField p = true) {l : List Int} (hl : l.length = R * C) (hx : ∀ x ∈ l, 0 ≤ x ∧ x < p) : Ev (fun k => zc.f k p R C l) (QU p R C l) := by
  have hp := je hf
  have hRC : R * C ≤ 64 := Nat.le_trans (Nat.mul_le_mul hR hC) (by decide)
  have key := JL hR hC hf l C 0 ⟨0, jj l C, []⟩ (by omega) (ye hl hp.1 hx)
  rw [← List.range_eq_range'] at key
  unfold zc.f
  have l0 := jr (fun k (x : List (List Int)) i => zc.l0 k x i p R C l) R (fun x i => x ++ [qz (jj l C) C i]) (fun i x => x = z1 (jj l C) i C)
    (fun i x hi hxx => ⟨by rw [hxx]; exact Qa _ C i, fun r hr => by
      have hle : (i + 1) * C ≤ R * C := Nat.mul_le_mul_right _ (by omega)
      have hle2 : i * C ≤ (i + 1) * C := Nat.mul_le_mul_right _ (by omega)
      have m1 := yf (r := (i : Int)) (c := (C : Int)) ⟨by omega, by omega⟩ ⟨by omega, by omega⟩
      have m2 := yf (r := ((i + 1 : Nat) : Int)) (c := (C : Int)) ⟨by omega, by omega⟩ ⟨by omega, by omega⟩
      have w1 : wrap64 ((i : Int) * (C : Int)) = ((i * C : Nat) : Int) := by rw [qU (by omega) (by omega)]; simp
      have w2 : wrap64 (((i + 1 : Nat) : Int) * (C : Int)) = (((i + 1) * C : Nat) : Int) := by rw [qU (by omega) (by omega), Int.natCast_mul]
      have hrow : (l.take ((i + 1) * C)).drop (i * C) = qz (jj l C) C i := by
        have := Zy (jj l C) hi (C := C)
        rw [y7 hl] at this; exact this
      have hlen : x.length = i := by rw [hxx, qj]
      simp only [zc.l0, show ((i : Int) < (R : Int)) by omega, if_true, Option.bind_some, qd (show i < 9223372036854775807 by omega), w1, w2, show (0 : Int) ≤ ((i * C : Nat) : Int) by omega, show ((i * C : Nat) : Int) ≤ (((i + 1) * C : Nat) : Int) by omega, show (((i + 1) * C : Nat) : Int) ≤ (l.length : Int) by omega, Int.toNat_natCast, hrow, qF, List.length_nil, show 0 + C < 17592186044416 by omega, hlen, show i < 5864062014805 by omega, List.nil_append]
      exact hr⟩) [] (by simp [z1])
  have hfold := l0.1
  refine l0.2 _ (Ev.succ ?_)
  simp only [zc.l0, show ¬ ((R : Int) < (R : Int)) by omega, if_false]
  rw [hfold]
  exact key
end Go.Proofs.Ytopkfhnnapncgaa.L
end
section
namespace Go.Proofs.Ytopkfhnnapncgaa.L
open Go.RowKit Go.Proofs.Ytopkfhnnapncgaa.F Go.Proofs.YtopkfhnnapncgaaW.PrintWords Go.Proofs.YtopkfhnnapncgaaW.PrintLast Go.Proofs.YtopkfhnnapncgaaW.PrintMore
open Go.Proofs.Ytopkfhnnapncgaa.Bits
set_option linter.unusedSimpArgs false
set_option linter.unusedVariables false
theorem vr (p r c : Int) (l : List Int) : Ev (fun k => zL.f k p r c l) (jR p r c l) := by
  unfold zL.f jR
  refine Ev.bind (ZL p r c l) ?_
  cases h : qX p r c l
  · simp only [Bool.false_eq_true, if_false]; exact Ev.now _
  obtain ⟨R, C, rfl, rfl, hR, hC, hl, h2, h7, hf, hx⟩ := j7 h
  simp only [if_true]
  refine Ev.bind (QB hR hC hf hl hx) ?_
  unfold vY
  rw [Int.toNat_natCast, Int.toNat_natCast]
  exact Ev.now _
theorem yE (p r c : Int) (l : List Int) : (jR p r c l).2.2.2.length ≤ 64 := by
  unfold jR
  cases h : qX p r c l
  · simp
  obtain ⟨R, C, rfl, rfl, hR, hC, hl, h2, h7, hf, hx⟩ := j7 h
  simp only [if_true, qn, vY, Int.toNat_natCast]
  have hok : ∀ (js : List Nat) (s : Red), (∀ j ∈ js, j < C) → vM p R C s → vM p R C (js.foldl (qw p R) s) := fun js => by
    induction js with
    | nil => intro s _ h; exact h
    | cons j js ih => intro s hj h; exact ih _ (fun x hx => hj x (List.mem_cons_of_mem _ hx)) (h.step (by omega) (hj j List.mem_cons_self))
  have h1 := (hok (List.range C) _ (fun j hj => List.mem_range.1 hj) (ye (R := R) hl (by omega) hx)).t_le
  exact Nat.le_trans (Nat.mul_le_mul (Nat.le_trans h1 hR) hC) (by decide)
end Go.Proofs.Ytopkfhnnapncgaa.L
end
section
namespace Go.Proofs.Ytopkfhnnapncgaa.L
open Go.RowKit Go.Proofs.Ytopkfhnnapncgaa.F Go.Proofs.YtopkfhnnapncgaaW.PrintWords Go.Proofs.YtopkfhnnapncgaaW.PrintLast Go.Proofs.YtopkfhnnapncgaaW.PrintMore
open Go.Proofs.Ytopkfhnnapncgaa.Bits
set_option linter.unusedSimpArgs false
/-- n numbers from m on. -/
def jW (n : Nat) (m : Int) : List Int := (List.range n).map fun i : Nat => m + (i : Int)
theorem jG (n : Nat) (m : Int) : (jW n m).length = n := by simp [jW]
theorem Qj (n : Nat) (m : Int) (i : Nat) (h : i < n) : (jW n m).getD i 0 = m + i := by simp [jW, h]
theorem y1 (l : List Int) (m : Int) : ∀ n, n ≤ l.length → (List.range n).foldl (fun (s : List Int × Int) i => (s.1.set i s.2, s.2 + 1)) (l, m) = (jW n m ++ l.drop n, m + n)
  | 0, _ => by simp [jW]
  | n + 1, h => by
    rw [List.range_succ, List.foldl_append, y1 l m n (by omega)]
    simp only [List.foldl_cons, List.foldl_nil, Prod.mk.injEq]
    refine ⟨?_, by omega⟩
    rw [List.set_append_right _ _ (by rw [jG]; exact Nat.le_refl n), jG, Nat.sub_self, List.drop_eq_getElem_cons (by omega), List.set_cons_zero]
    simp [jW, List.range_succ]
theorem QG (l : List Int) (m : Int) (h : l.length ≤ 17592186044416) (h0 : 0 ≤ m) (h1 : m ≤ 140737488355328) : Ev (fun k => zY.f k l m) (m + l.length, jW l.length m) := by
  unfold zY.f
  have key := jn (fun k (s : List Int × Int) i => zY.l0 k s.1 s.2 i) l.length (fun s i => (s.1.set i s.2, s.2 + 1)) (fun i s => s.1.length = l.length ∧ s.2 = m + i) (fun s => (s.2, s.1))
    (fun s hs => by
      simp only [zY.l0, hs.1, show ¬ ((l.length : Int) < (l.length : Int)) by omega, if_false]
      exact Ev.now _)
    (fun i s hi hs => ⟨⟨by simp [hs.1], by simp only [hs.2]; omega⟩, fun r hr => by
      have hw : wrap64 (s.2 + 1) = s.2 + 1 := qU (by omega) (by omega)
      simp only [zY.l0, hs.1, show ((i : Int) < (l.length : Int)) by omega, show (0 : Int) ≤ (i : Int) by omega, if_true, Int.toNat_natCast, hw, qd (show i < 9223372036854775807 by omega)]
      exact hr⟩) (l, m) ⟨rfl, by simp⟩
  rw [y1 l m l.length (Nat.le_refl _)] at key
  simpa using key
theorem Qu (n : Nat) (m : Int) (h : n ≤ 17592186044416) (h0 : 0 ≤ m) (h1 : m ≤ 140737488355328) : Ev (fun k => zX.f k (jW n m) m) (m + n) := by
  unfold zX.f
  have key := jn (fun k (s : Int) i => zX.l0 k (jW n m) s i) n (fun s _ => s + 1) (fun i s => s = m + i) id
    (fun s hs => by
      simp only [zX.l0, jG, show ¬ ((n : Int) < (n : Int)) by omega, if_false]
      exact Ev.now _)
    (fun i s hi hs => ⟨by rw [hs]; omega, fun r hr => by
      have hw : wrap64 (s + 1) = s + 1 := qU (by omega) (by omega)
      have hg : rd (jW n m) (i : Int) = s := by rw [qI, Qj n m i hi, hs]
      simp only [zX.l0, jG, hg, show ((i : Int) < (n : Int)) by omega, show (0 : Int) ≤ (i : Int) by omega, if_true, hw, qd (show i < 9223372036854775807 by omega)]
      exact hr⟩) m (by simp)
  have e : ∀ n : Nat, (List.range n).foldl (fun (s : Int) _ => s + 1) m = m + n := by
    intro n
    induction n with
    | zero => simp
    | succ n ih => rw [List.range_succ, List.foldl_append, ih]; simp; omega
  rw [e n] at key
  exact key
end Go.Proofs.Ytopkfhnnapncgaa.L
end
section
namespace Go.Proofs.Ytopkfhnnapncgaa.L
open Go.RowKit Go.Proofs.Ytopkfhnnapncgaa.F Go.Proofs.YtopkfhnnapncgaaW.PrintWords Go.Proofs.YtopkfhnnapncgaaW.PrintLast Go.Proofs.YtopkfhnnapncgaaW.PrintMore
open Go.Proofs.Ytopkfhnnapncgaa.Bits
theorem yz (p r c : Int) (l : List Int) (h : l.length ≤ 17592186044416) : Ev (fun k => zK.f k p r c l 1) (1 + l.length, jW l.length 1) := by
  unfold zK.f
  exact Ev.bind (QG l 1 h (by omega) (by omega)) (Ev.now _)
theorem yt (p r c : Int) (n : Nat) (h : n ≤ 17592186044416) : Ev (fun k => zR.f k p r c (jW n 1) 1) (1 + n) := by
  unfold zR.f
  refine Ev.bind (Qu n 1 h (by omega) (by omega)) ?_
  simp only [show ¬ (1 + (n : Int) < 0) by omega, if_false]; exact Ev.now _
end Go.Proofs.Ytopkfhnnapncgaa.L
end
section
namespace Go.Proofs.Ytopkfhnnapncgaa.Pure
open Go.RowKit Go.Proofs.Ytopkfhnnapncgaa.F Go.Proofs.Ytopkfhnnapncgaa.L Go.Proofs.YtopkfhnnapncgaaW.PrintWords Go.Proofs.YtopkfhnnapncgaaW.PrintLast Go.Proofs.YtopkfhnnapncgaaW.PrintMore
theorem FnExactReduceMatrix (p r c : Int) (l : List Int) (_ : (Lit.int .i64 p).wf = true) (_ : (Lit.int .i64 r).wf = true) (_ : (Lit.int .i64 c).wf = true) (hl : l.length * 8 ≤ 140737488351232) (_ : ∀ x ∈ l, (Lit.int .i64 x).wf = true) :
    ∃ k, zg.f k p r c l = some true := by
  have h1 : l.length ≤ 17592186044416 := by omega
  refine Ev.rounds ?_
  unfold zg.f
  obtain ⟨n, hn, hb⟩ := QC p r c l 1048576 h1 (by decide) (by decide)
  simp only [hn, Option.bind_some]
  by_cases h : n < 0
  · simp only [h, if_true]; exact Ev.now _
  simp only [h, if_false]
  have hm : (jR p r c l).2.2.2.length ≤ 17592186044416 := Nat.le_trans (yE p r c l) (by decide)
  refine Ev.bind (vP p r c l h1) (Ev.bind (yr p r c l) (Ev.bind (vP p r c l h1) (Ev.bind (vr p r c l) ?_)))
  have hi := vr p r c l
  generalize jR p r c l = m at hm hi
  obtain ⟨p', r', c', l'⟩ := m
  simp only at hm hi ⊢
  refine Ev.bind (vT p' r' c' l' p' r' c' l' hm) ?_
  simp only [decide_true, if_true]
  refine Ev.bind (vP p r c l h1) (Ev.bind (vT p r c l p r c l h1) ?_)
  simp only [decide_true, if_true]
  refine Ev.bind (yz p r c l h1) ?_
  simp only [show ¬ (1 + (l.length : Int) < 0) by omega, if_false]
  refine Ev.bind (vT p' r' c' l' p' r' c' l' hm) ?_
  simp only [decide_true, Bool.not_true]
  refine Ev.succ ?_
  simp only [zg.j0, Bool.false_eq_true, if_false]
  refine Ev.bind (yz p' r' c' l' hm) (Ev.bind (yt p' r' c' l'.length hm) ?_)
  simp only [show ¬ (1 + (l'.length : Int) < 0) by omega, if_false, if_true]
  refine Ev.bind (vP p r c l h1) (Ev.bind hi (Ev.bind (vT p' r' c' l' p' r' c' l' hm) ?_))
  simp only [decide_true, if_true]
  refine Ev.bind (yt p' r' c' l'.length hm) ?_
  simp only [show ¬ (1 + (l'.length : Int) < 0) by omega, if_false, if_true]
  exact Ev.now _
end Go.Proofs.Ytopkfhnnapncgaa.Pure
end
section
namespace Go.Proofs.Ytopkfhnnapncgaa.fnExactReduceMatrix
open Go.ChangeShapes Go.WideShapes Go.ChangeAt Go.RowKit Go.Joins
open Go.ChangeMaps (open_string shut_string)
set_option linter.unusedVariables false
theorem lifted (os : Os) (started : os.Started) (H : Type) (enc : TypeId × Value → H) :
    ReturnsInHanded {} Try.checked os 9 .any (Rows.fnExactReduceMatrixSpec.pre6 enc Try.prog Try.f9 Rows.fnExactReduceMatrixRow.domain false) (Rows.fnExactReduceMatrixSpec.post enc Try.prog Try.f9 false true false false) := by
  refine returnsInHanded_of_change_sized (C := Try.checked) Open.own started (by kernel_rfl) Try.func9
    (ChangeSpec.witness6 (enc := enc) (C := Try.checked) false ⟨#[], #[.agg #[.int .i64 0, .int .i64 0, .int .i64 0, .slice none 0 0]], []⟩ 8 (by kernel_rfl) (by kernel_rfl) (by kernel_rfl) (by kernel_rfl)) ?_
  intro W base args ds gs before hval0 hW hcnd hsz0 _
  have hsz : (DataW.weightsEach Try.prog (Try.f9.params.toList ++ Rows.fnExactReduceMatrixSpec.plain.varTypes Try.prog) (ds ++ gs)).all (· ≤ reachBytes) = true := hsz0
  have hval : ∀ (j : Nat) t v, Try.f9.params[j]? = some t → args[j]? = some v → Value.okWide Try.prog W .any base t v := hval0
  have hW' := hW
  obtain ⟨p, q, hA0, hV, rfl, hfz, hnd⟩ := hW
  have hA : DataW.TrodAll enc Try.prog W 0 (fun _ => true) true Try.f9.params.toList args.toList ds p := hA0
  rw [Try.params9] at hA hval hsz
  obtain ⟨v0, vs0, d0, ds0, p0, q0, hargs, rfl, rfl, h0, r0⟩ := trodAll_cons hA
  obtain ⟨rfl, rfl, rfl⟩ := trodAll_nil r0
  obtain rfl : args = #[v0] := by cases args; simp_all
  obtain ⟨rfl, rfl⟩ := trodVars_none hV
  have k0 := h0
  have lt0 : ∀ x ∈ p0, x.block < W.heap.size := by obtain ⟨m, hm⟩ := k0; exact DataW.trod_lt m _ _ _ hm
  obtain ⟨v0_0, v0_1, v0_2, v0_3, y0_0, y0_1, y0_2, y0_3, fuel0, rfl, hd0, hp0, t0_0, t0_1, t0_2, t0_3⟩ := open_agg4 Try.underlying24 (by kernel_rfl) (by kernel_rfl) (hval 0 24 v0 rfl rfl) h0
  have z0 : (DataW.weightsEach Try.prog [3, 3, 3, 22] [y0_0.1, y0_1.1, y0_2.1, y0_3.1]).all (· ≤ reachBytes) = true := Open.Z6 hsz (j := 0) (t := 24) rfl (congrArg some hd0) Try.underlying24
  obtain ⟨a0_0, e0_0, _, w0_0⟩ := DataW.trod_int Try.underlying3 t0_0
  obtain rfl : v0_0 = _ := (List.cons.inj e0_0).1
  obtain ⟨a0_1, e0_1, _, w0_1⟩ := DataW.trod_int Try.underlying3 t0_1
  obtain rfl : v0_1 = _ := (List.cons.inj e0_1).1
  obtain ⟨a0_2, e0_2, _, w0_2⟩ := DataW.trod_int Try.underlying3 t0_2
  obtain rfl : v0_2 = _ := (List.cons.inj e0_2).1
  obtain ⟨A0_3, c0_3, l0_3, rfl, hr0_3, hc0_3, hn0_3, hw0_3⟩ := Open.QJ (j := 3) Try.underlying22 Try.underlying3 (by kernel_rfl) (by kernel_rfl) z0 rfl rfl t0_3
  obtain ⟨k, h⟩ := Pure.FnExactReduceMatrix a0_0 a0_1 a0_2 l0_3 w0_0 w0_1 w0_2 hn0_3 hw0_3
  refine (F.zg.calls (w := W) (hr0_3 := hr0_3) (hc0_3 := hc0_3) (h := h)).mono ?_
  rintro e W' ⟨he, hd⟩
  have bel : Below W.heap.size W W' := by first | exact hd | exact hd.below
  subst he
  exact ⟨_, rfl, _, _, _, [], _, [], hW', trodAll_mk1 (shut_bool Try.underlying4 _), (trodAll_cons_mk (Below.trod Open.laidOut (by kernel_rfl) (of_decide_eq_true (by kernel_rfl)) k0 bel lt0) trodAll_mk0), rfl, bel.frame _, fun h => by cases h⟩
theorem over : Rows.fnExactReduceMatrixRow.holds Try.pinned (OpenSpec.ofChange Rows.fnExactReduceMatrixSpec) :=
  OpenClaim.holds_of_wide 9 Try.f9 rfl rfl rfl rfl rfl rfl rfl ⟨rfl, rfl, rfl, rfl, rfl⟩ rfl rfl rfl rfl rfl (by kernel_rfl) Try.func9 (by kernel_rfl)
    (of_decide_eq_true (by kernel_rfl)) (by unfold Func.isWrapper; first | (rw [if_pos (by decide +kernel)]; kernel_rfl) | (rw [if_neg (by decide +kernel)]; exact ⟨rfl, rfl⟩))
    (fun os started H enc _ => lifted os started H enc)
theorem proved : Rows.FnExactReduceMatrixSaid := over
end Go.Proofs.Ytopkfhnnapncgaa.fnExactReduceMatrix
namespace Go.Proofs.Ytopkfhnnapncgaa
/-- The row, under a short name, for the claim. -/
theorem fnExactReduceMatrix_holds : Rows.FnExactReduceMatrixSaid := fnExactReduceMatrix.proved
#print axioms fnExactReduceMatrix_holds
end Go.Proofs.Ytopkfhnnapncgaa
end
