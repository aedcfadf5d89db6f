/- Several texts of this session in one: Fx3, Base, Bits, Loops, LLists, LTabs, LSets, LMatrix, LCell, LReduce, Mat, Mat2, Mat4, Lin, Mat3, Elim, LGauss, LGaussS, LReduceS, LReduceI, LMatRank, PuFnExactMatrixRank, LawFnExactMatrixRank. Conditions: as each theorem says. -/
import Derived.Test.YtopkfhnnapncgaaZMatrixRank0
import Derived.Test.YtopkfhnnapncgaaZMatrixRank1
import Derived.Test.YtopkfhnnapncgaaZMatrixRank3
import Derived.Laws.BitsLemmas
import Derived.Test.YtopkfhnnapncgaaZMatrixRank2
import Derived.Test.YtopkfhnnapncgaaRows
import Derived.WalkKit
import Derived.ProofKit
import Derived.OpenShut
import Derived.ShutString
import Derived.ChangeOld
import Derived.Below
import Derived.SizedLaws
import Derived.Lib.SmallJoins
set_option maxHeartbeats 8000000
set_option maxRecDepth 100000
section
namespace Go.Proofs.Ytopkfhnnapncgaa.F
open Go.RowKit Go.Proofs.YtopkfhnnapncgaaW.PrintWords Go.Proofs.YtopkfhnnapncgaaW.PrintLast Go.Proofs.YtopkfhnnapncgaaW.PrintMore
attribute [local go_sem] jP jR vl vm ju jv jO jN   -- for this text's walks alone
set_option linter.unusedVariables false
set_option linter.unusedSimpArgs false

mutual
def zl.l0 : Nat → Int → Int → Int → Int → Int → List Int → Int → Int → Int → List Int → Option (Int × Int × Int × List Int)
 | 0, _, _, _, _, _, _, _, _, _, _ => none
 | k + 1, x4, x5, x157000, x157001, x157002, x157003, x166000, x166001, x166002, x166003 => if x5 < x157002 then (zl.j1 k x4 x5 (decide (x4 < x157001)) x157000 x157001 x157002 x157003 x166000 x166001 x166002 x166003) else (zl.j1 k x4 x5 false x157000 x157001 x157002 x157003 x166000 x166001 x166002 x166003)
def zl.j1 : Nat → Int → Int → Bool → Int → Int → Int → List Int → Int → Int → Int → List Int → Option (Int × Int × Int × List Int)
 | 0, _, _, _, _, _, _, _, _, _, _, _ => none
 | k + 1, x4, x5, x22, x157000, x157001, x157002, x157003, x166000, x166001, x166002, x166003 => if x22 = true then (zl.l1 k x4 x5 x4 x157000 x157001 x157002 x157003 x166000 x166001 x166002 x166003) else ((some (([] : List Int) : List Int)).bind fun y166 => (if 0 ≤ (wrap64 (x4 * x157002)) then (if (wrap64 (x4 * x157002)) ≤ (x166003.length : Int) then ((some (x166003.take ((wrap64 (x4 * x157002)) : Int).toNat : List Int)).bind fun y169 => (if y166.length + y169.length < 17592186044416 then (some (x166000, x4, x166002, (y166 ++ y169))) else (none))) else (none)) else (none)))
def zl.j3 : Nat → Int → Int → Int → Int → Int → Int → List Int → Int → Int → Int → List Int → Option (Int × Int × Int × List Int)
 | 0, _, _, _, _, _, _, _, _, _, _, _ => none
 | k + 1, x4, x5, x6, x157000, x157001, x157002, x157003, x166000, x166001, x166002, x166003 => if x6 = x157001 then (zl.l0 k x4 (wrap64 (x5 + 1)) x157000 x157001 x157002 x157003 x166000 x166001 x166002 x166003) else ((zF.f k x166000 x166001 x166002 x166003 x4 x6).bind fun t177 => ((zg.f k x166000 x166001 x166002 t177 x4 x5).bind fun t178 => (zl.l0 k (wrap64 (x4 + 1)) (wrap64 (x5 + 1)) x157000 x157001 x157002 x157003 x166000 x166001 x166002 t178)))
def zl.l1 : Nat → Int → Int → Int → Int → Int → Int → List Int → Int → Int → Int → List Int → Option (Int × Int × Int × List Int)
 | 0, _, _, _, _, _, _, _, _, _, _, _ => none
 | k + 1, x4, x5, x6, x157000, x157001, x157002, x157003, x166000, x166001, x166002, x166003 => if x6 < x157001 then (if 0 ≤ (wrap64 ((wrap64 (x6 * x157002)) + x5)) then (if (wrap64 ((wrap64 (x6 * x157002)) + x5)) < (x166003.length : Int) then (if (rd x166003 (wrap64 ((wrap64 (x6 * x157002)) + x5))) = 0 then (zl.l1 k x4 x5 (wrap64 (x6 + 1)) x157000 x157001 x157002 x157003 x166000 x166001 x166002 x166003) else (zl.j3 k x4 x5 x6 x157000 x157001 x157002 x157003 x166000 x166001 x166002 x166003)) else (none)) else (none)) else (zl.j3 k x4 x5 x6 x157000 x157001 x157002 x157003 x166000 x166001 x166002 x166003)
end
def zl.f (k : Nat) (a0_0 : Int) (a0_1 : Int) (a0_2 : Int) (l0_3 : List Int) : Option (Int × Int × Int × List Int) := (zi.f k a0_0 a0_1 a0_2 l0_3).bind fun t158 => (if t158 = true then ((z6.f a0_0 a0_1 a0_2 l0_3).bind fun bt159 => (zl.l0 k 0 0 a0_0 a0_1 a0_2 l0_3 bt159.1 bt159.2.1 bt159.2.2.1 bt159.2.2.2)) else (some (0, 0, 0, ([] : List Int))))
theorem zl.calls (k : Nat) (a0_0 : Int) (a0_1 : Int) (a0_2 : Int) (A0_3 : Option Addr) (c0_3 : Nat) (l0_3 : List Int) (r1 : Int) (r2 : Int) (r3 : Int) (r4 : List Int) (w : World) (hr0_3 : Kd.C (Kd.int .i64) w A0_3 l0_3.length l0_3) (hc0_3 : l0_3.length ≤ c0_3) (h : zl.f k a0_0 a0_1 a0_2 l0_3 = some (r1, r2, r3, r4)) :
  Calls Try.prog 32 #[.agg #[.int .i64 a0_0, .int .i64 a0_1, .int .i64 a0_2, .slice A0_3 l0_3.length c0_3]] w fun e w' => ∃ v3_ : Value, e = .returned (.agg #[.int .i64 r1, .int .i64 r2, .int .i64 r3, v3_]) ∧ Kd.R (Kd.int .i64) 3 w' w.heap.size (fun _ => True) v3_ r4 ∧ Below w.heap.size w w' := by
 have hu27 := Try.underlying27
 have HR0_3 := Aside0.mk hr0_3
 have HC0_3 := Aside0.mk hc0_3
 clear hr0_3 hc0_3
 have HB := Aside0.mk (Below.refl w.heap.size w)
 have H : ((zi.f k a0_0 a0_1 a0_2 l0_3).bind fun t158 => (if t158 = true then ((z6.f a0_0 a0_1 a0_2 l0_3).bind fun bt159 => (zl.l0 k 0 0 a0_0 a0_1 a0_2 l0_3 bt159.1 bt159.2.1 bt159.2.2.1 bt159.2.2.2)) else (some (0, 0, 0, ([] : List Int))))) = some (r1, r2, r3, r4) := h
 clear h
 replace H := Option.bind_eq_some_iff.mp H
 obtain ⟨t158, A20, H⟩ := H
 replace H : (if t158 = true then ((z6.f a0_0 a0_1 a0_2 l0_3).bind fun bt159 => (zl.l0 k 0 0 a0_0 a0_1 a0_2 l0_3 bt159.1 bt159.2.1 bt159.2.2.1 bt159.2.2.2)) else (some (0, 0, 0, ([] : List Int)))) = some (r1, r2, r3, r4) := H
 have A2 := Aside0.mk A20
 clear A20
 by_cases c3 : t158 = true
 ·subst c3
  have H1 : ((z6.f a0_0 a0_1 a0_2 l0_3).bind fun bt159 => (zl.l0 k 0 0 a0_0 a0_1 a0_2 l0_3 bt159.1 bt159.2.1 bt159.2.2.1 bt159.2.2.2)) = some (r1, r2, r3, r4) := by rw [if_pos rfl] at H; exact H
  clear H
  have H := H1
  clear H1
  replace H := Option.bind_eq_some_iff.mp H
  obtain ⟨⟨t159, t160, t161, t162⟩, A40, H⟩ := H
  replace H : (zl.l0 k 0 0 a0_0 a0_1 a0_2 l0_3 t159 t160 t161 t162) = some (r1, r2, r3, r4) := H
  have A4 := Aside0.mk A40
  clear A40
  have H' := Aside0.mk H
  clear H
  go_enter Try.func32, Try.ntmps32
  go_wp2_with (first | ((with_reducible refine zx (N := 1) rfl ?_); refine zy ?hg (N := 1) ?hd (cs := #[.int .i64 a0_0, .int .i64 a0_1, .int .i64 a0_2, .slice A0_3 l0_3.length c0_3]) (t := 27) ?hr ?_; (case hd => rfl); (case hg => rfl); (case hr => exact sqG); intro gb156 hg w5 hbox hb; have n0_ := Aside0.mk (zj sqB hb); have n1_ := Aside0.mk (hbox); have n2_ := Aside0.mk ((sqS hg : w.heap.size ≤ gb156)); have n3_ := Aside0.mk ((sqS hg : w.heap.size ≤ gb156)); clear HB; have HB := n0_; have BK156 := n1_; have GW156 := n2_; have GE156 := n3_; clear n0_ n1_ n2_ n3_; clear hb hbox hg) | ((with_reducible refine zx (N := 2) rfl ?_); refine zy ?hg (N := 2) ?hd (cs := #[.int .i64 0, .int .i64 0, .int .i64 0, .slice none 0 0]) (t := 27) ?hr ?_; (case hd => rfl); (case hg => rfl); (case hr => exact sqG); intro gb157 hg w6 hbox hb; have n0_ := Aside0.mk (zq (g := gb156) (o := .cells #[.int .i64 a0_0, .int .i64 a0_1, .int .i64 a0_2, .slice A0_3 l0_3.length c0_3] 27 (0, 0)) (sqK BK156.out) hb); have n1_ := Aside0.mk (zj sqB hb); have n2_ := Aside0.mk (hbox); have n3_ := Aside0.mk ((sqS hg : w.heap.size ≤ gb157)); have n4_ := Aside0.mk ((sqS hg : w.heap.size ≤ gb157)); have n5_ := Aside0.mk ((by rw [hg]; exact Nat.ne_of_lt (zS (g := gb156) (o := .cells #[.int .i64 a0_0, .int .i64 a0_1, .int .i64 a0_2, .slice A0_3 l0_3.length c0_3] 27 (0, 0)) (sqK BK156.out)) : gb156 ≠ gb157)); have n6_ := Aside0.mk ((by rw [hg]; exact Nat.ne_of_gt (zS (g := gb156) (o := .cells #[.int .i64 a0_0, .int .i64 a0_1, .int .i64 a0_2, .slice A0_3 l0_3.length c0_3] 27 (0, 0)) (sqK BK156.out)) : gb157 ≠ gb156)); clear BK156; clear HB; have BK156 := n0_; have HB := n1_; have BK157 := n2_; have GW157 := n3_; have GE157 := n4_; have NB156_157 := n5_; have NB157_156 := n6_; clear n0_ n1_ n2_ n3_ n4_ n5_ n6_; clear hb hbox hg; have hnb7 := NB156_157.out; have hnc7 := NB157_156.out; have hcz8_0 : w6.cell? ⟨gb156, 0, none⟩ = some (.int .i64 a0_0) := (zb BK156.out 0).trans rfl; have hcz8_1 : w6.cell? ⟨gb156, 1, none⟩ = some (.int .i64 a0_1) := (zb BK156.out 1).trans rfl; have hcz8_2 : w6.cell? ⟨gb156, 2, none⟩ = some (.int .i64 a0_2) := (zb BK156.out 2).trans rfl; have hcz8_3 : w6.cell? ⟨gb156, 3, none⟩ = some (.slice A0_3 l0_3.length c0_3) := (zb BK156.out 3).trans rfl; have hfz8_0 := za BK156.out 0; have hfz8_1 := za BK156.out 1; have hfz8_2 := za BK156.out 2; have hfz8_3 := za BK156.out 3) | ((with_reducible refine zt (f := 37) rfl ?_); refine zN (some 8) rfl rfl Try.func37 (by kernel_rfl) rfl #[.agg #[.int .i64 a0_0, .int .i64 a0_1, .int .i64 a0_2, .slice A0_3 l0_3.length c0_3]] rfl sqM ?_; (with_reducible refine (zi.calls k a0_0 a0_1 a0_2 _ _ l0_3 true _ ?side1 ?side2 A2.out).mono ?_); (case side1 => exact sqC (Kd.z7 HR0_3.out HB.out)); (case side2 => exact HC0_3.out); rintro e w9 ⟨rfl, hb⟩; refine ⟨_, rfl, ?_⟩; have n0_ := Aside0.mk (zq (g := gb156) (o := .cells #[.int .i64 a0_0, .int .i64 a0_1, .int .i64 a0_2, .slice A0_3 l0_3.length c0_3] 27 (0, 0)) (sqK BK156.out) hb); have n1_ := Aside0.mk (zq (g := gb157) (o := .cells #[.int .i64 0, .int .i64 0, .int .i64 0, .slice none 0 0] 27 (0, 0)) (sqK BK157.out) hb); have n2_ := Aside0.mk (zj sqB hb); clear BK156; clear BK157; clear HB; have BK156 := n0_; have BK157 := n1_; have HB := n2_; clear n0_ n1_ n2_; (try clear hb); (try clear hb2); (try clear hk); (try clear hi); have hcz10_0 : w9.cell? ⟨gb156, 0, none⟩ = some (.int .i64 a0_0) := (zb BK156.out 0).trans rfl; have hcz10_1 : w9.cell? ⟨gb156, 1, none⟩ = some (.int .i64 a0_1) := (zb BK156.out 1).trans rfl; have hcz10_2 : w9.cell? ⟨gb156, 2, none⟩ = some (.int .i64 a0_2) := (zb BK156.out 2).trans rfl; have hcz10_3 : w9.cell? ⟨gb156, 3, none⟩ = some (.slice A0_3 l0_3.length c0_3) := (zb BK156.out 3).trans rfl; have hfz10_0 := za BK156.out 0; have hfz10_1 := za BK156.out 1; have hfz10_2 := za BK156.out 2; have hfz10_3 := za BK156.out 3) | ((with_reducible refine zt (f := 60) rfl ?_); refine zN (some 12) rfl rfl Try.func60 (by kernel_rfl) rfl #[.agg #[.int .i64 a0_0, .int .i64 a0_1, .int .i64 a0_2, .slice A0_3 l0_3.length c0_3]] rfl sqM ?_; (with_reducible refine (z6.calls a0_0 a0_1 a0_2 _ _ l0_3 t159 t160 t161 t162 _ ?side1 ?side2 A4.out).mono ?_); (case side1 => exact sqC (Kd.z7 HR0_3.out HB.out)); (case side2 => exact HC0_3.out); rintro e w11 ⟨v163, rfl, ho0, hb⟩; refine ⟨_, rfl, ?_⟩; have n0_ := Aside0.mk (Kd.qE ho0 (zI sqB)); have n1_ := Aside0.mk (zq (g := gb156) (o := .cells #[.int .i64 a0_0, .int .i64 a0_1, .int .i64 a0_2, .slice A0_3 l0_3.length c0_3] 27 (0, 0)) (sqK BK156.out) hb); have n2_ := Aside0.mk (zq (g := gb157) (o := .cells #[.int .i64 0, .int .i64 0, .int .i64 0, .slice none 0 0] 27 (0, 0)) (sqK BK157.out) hb); have n3_ := Aside0.mk (zj sqB hb); clear BK156; clear BK157; clear HB; have HO164 := n0_; have BK156 := n1_; have BK157 := n2_; have HB := n3_; clear n0_ n1_ n2_ n3_; (try clear hb); (try clear hb2); (try clear hk); (try clear hi); (try clear ho0)) | ((with_reducible refine zx (N := 3) rfl ?_); refine zy ?hg (N := 3) ?hd (cs := #[.int .i64 0, .int .i64 0, .int .i64 0, .slice none 0 0]) (t := 27) ?hr ?_; (case hd => rfl); (case hg => rfl); (case hr => exact sqG); intro gb165 hg w12 hbox hb; have n0_ := Aside0.mk (Kd.qo (sqR HO164.out) hb); have n1_ := Aside0.mk (zq (g := gb156) (o := .cells #[.int .i64 a0_0, .int .i64 a0_1, .int .i64 a0_2, .slice A0_3 l0_3.length c0_3] 27 (0, 0)) (sqK BK156.out) hb); have n2_ := Aside0.mk (zq (g := gb157) (o := .cells #[.int .i64 0, .int .i64 0, .int .i64 0, .slice none 0 0] 27 (0, 0)) (sqK BK157.out) hb); have n3_ := Aside0.mk (zj sqB hb); have n4_ := Aside0.mk (hbox); have n5_ := Aside0.mk ((sqS hg : w.heap.size ≤ gb165)); have n6_ := Aside0.mk ((sqS hg : w.heap.size ≤ gb165)); have n7_ := Aside0.mk ((by rw [hg]; exact Nat.ne_of_lt (zS (g := gb156) (o := .cells #[.int .i64 a0_0, .int .i64 a0_1, .int .i64 a0_2, .slice A0_3 l0_3.length c0_3] 27 (0, 0)) (sqK BK156.out)) : gb156 ≠ gb165)); have n8_ := Aside0.mk ((by rw [hg]; exact Nat.ne_of_gt (zS (g := gb156) (o := .cells #[.int .i64 a0_0, .int .i64 a0_1, .int .i64 a0_2, .slice A0_3 l0_3.length c0_3] 27 (0, 0)) (sqK BK156.out)) : gb165 ≠ gb156)); have n9_ := Aside0.mk ((by rw [hg]; exact Nat.ne_of_lt (zS (g := gb157) (o := .cells #[.int .i64 0, .int .i64 0, .int .i64 0, .slice none 0 0] 27 (0, 0)) (sqK BK157.out)) : gb157 ≠ gb165)); have n10_ := Aside0.mk ((by rw [hg]; exact Nat.ne_of_gt (zS (g := gb157) (o := .cells #[.int .i64 0, .int .i64 0, .int .i64 0, .slice none 0 0] 27 (0, 0)) (sqK BK157.out)) : gb165 ≠ gb157)); clear HO164; clear BK156; clear BK157; clear HB; have HO164 := n0_; have BK156 := n1_; have BK157 := n2_; have HB := n3_; have BK165 := n4_; have GW165 := n5_; have GE165 := n6_; have NB156_165 := n7_; have NB165_156 := n8_; have NB157_165 := n9_; have NB165_157 := n10_; clear n0_ n1_ n2_ n3_ n4_ n5_ n6_ n7_ n8_ n9_ n10_; clear hb hbox hg; have hnb13 := NB165_156.out; have hnc13 := NB156_165.out; have hnb14 := NB165_157.out; have hnc14 := NB157_165.out; have hcz15_0 : w12.cell? ⟨gb165, 0, none⟩ = some (.int .i64 0) := (zb BK165.out 0).trans rfl; have hcz15_1 : w12.cell? ⟨gb165, 1, none⟩ = some (.int .i64 0) := (zb BK165.out 1).trans rfl; have hcz15_2 : w12.cell? ⟨gb165, 2, none⟩ = some (.int .i64 0) := (zb BK165.out 2).trans rfl; have hcz15_3 : w12.cell? ⟨gb165, 3, none⟩ = some (.slice none 0 0) := (zb BK165.out 3).trans rfl; have hfz15_0 := za BK165.out 0; have hfz15_1 := za BK165.out 1; have hfz15_2 := za BK165.out 2; have hfz15_3 := za BK165.out 3; obtain ⟨Ao16, co16, eo16⟩ := Kd.z1 HO164.out; subst eo16))
  go_loopg [4, 5] k (fun kq v4 v5 w' => ∃ (x4_1 : Int) (x5_1 : Int) (x166003_1 : List Int) (u166003 : Value), v4 = .int .i64 x4_1 ∧ v5 = .int .i64 x5_1 ∧ Aside0 (zl.l0 kq x4_1 x5_1 a0_0 a0_1 a0_2 l0_3 t159 t160 t161 x166003_1 = some (r1, r2, r3, r4)) ∧ Aside0 (kq ≤ k) ∧ Aside0 (Kd.R (Kd.int .i64) 3 w' w.heap.size (fun _ => True) u166003 x166003_1) ∧ Aside0 (w'.heap[gb156]? = some (.cells #[.int .i64 a0_0, .int .i64 a0_1, .int .i64 a0_2, (.slice A0_3 l0_3.length c0_3)] 27 (0, 0))) ∧ Aside0 (w'.heap[gb157]? = some (.cells #[.int .i64 0, .int .i64 0, .int .i64 0, (.slice none 0 0)] 27 (0, 0))) ∧ Aside0 (w'.heap[gb165]? = some (.cells #[.int .i64 t159, .int .i64 t160, .int .i64 t161, u166003] 27 (0, 0))) ∧ Aside0 (Below w.heap.size w w'))
  case atStart => exact ⟨(0), (0), (t162), (.slice Ao16 t162.length co16), (sqD), (sqD), H', ⟨Nat.le_refl _⟩, ⟨by refine sqR ?_; exact Kd.zO (Kd.zP (p := ⟨gb165, 3, none⟩) (Kd.zP (p := ⟨gb165, 2, none⟩) (Kd.zP (p := ⟨gb165, 1, none⟩) (Kd.zP (p := ⟨gb165, 0, none⟩) (Kd.qt HO164.out BK165.out (by decide)) (fun _ hk => hk.2) (.int .i64 t159)) (fun _ hk => hk.2) (.int .i64 t160)) (fun _ hk => hk.2) (.int .i64 t161)) (fun _ hk => hk.2) (.slice Ao16 t162.length co16)) (fun _ hk => trivial)⟩, ⟨by refine sqK ?_; refine zB ?_ NB156_165.out _; refine sqK ?_; refine zB ?_ NB156_165.out _; refine sqK ?_; refine zB ?_ NB156_165.out _; refine sqK ?_; refine zB ?_ NB156_165.out _; refine sqK ?_; exact BK156.out⟩, ⟨by refine sqK ?_; refine zB ?_ NB157_165.out _; refine sqK ?_; refine zB ?_ NB157_165.out _; refine sqK ?_; refine zB ?_ NB157_165.out _; refine sqK ?_; refine zB ?_ NB157_165.out _; refine sqK ?_; exact BK157.out⟩, ⟨by refine sqK ?_; refine zG (cs := #[.int .i64 t159, .int .i64 t160, .int .i64 t161, .slice none 0 0]) ?_ 3 _ rfl; refine sqK ?_; refine zG (cs := #[.int .i64 t159, .int .i64 t160, .int .i64 0, .slice none 0 0]) ?_ 2 _ rfl; refine sqK ?_; refine zG (cs := #[.int .i64 t159, .int .i64 0, .int .i64 0, .slice none 0 0]) ?_ 1 _ rfl; refine sqK ?_; refine zG (cs := #[.int .i64 0, .int .i64 0, .int .i64 0, .slice none 0 0]) ?_ 0 _ rfl; refine sqK ?_; exact BK165.out⟩, ⟨sqB⟩⟩
  case round =>
   clear H'
   try clear c1
   try clear p2
   try clear c3
   try clear c6
   try clear c7
   try clear c13
   try clear c14
   try clear hcz10_0
   try clear hcz10_1
   try clear hcz10_2
   try clear hcz10_3
   try clear hcz15_0
   try clear hcz15_1
   try clear hcz15_2
   try clear hcz15_3
   try clear hcz8_0
   try clear hcz8_1
   try clear hcz8_2
   try clear hcz8_3
   try clear hfz10_0
   try clear hfz10_1
   try clear hfz10_2
   try clear hfz10_3
   try clear hfz15_0
   try clear hfz15_1
   try clear hfz15_2
   try clear hfz15_3
   try clear hfz8_0
   try clear hfz8_1
   try clear hfz8_2
   try clear hfz8_3
   obtain ⟨x4_1, x5_1, x166003_1, u166003, rfl, rfl, HA, HK1, HO_166003, BK156, BK157, BK165, HB⟩ := hrel
   cases gk with
   | zero => exact absurd HA.out (by simp [zl.l0])
   | succ k1 =>
    have H := HA.out
    clear HA
    simp only [zl.l0] at H
    have HC17 := Aside0.mk H
    clear H
    go_upto_region 6 with (fail)
    go_cut [22] (fun v22 wc => ∃ (kq : Nat) (x22_16 : Bool), v22 = .bool x22_16 ∧ Aside0 (zl.j1 kq x4_1 x5_1 x22_16 a0_0 a0_1 a0_2 l0_3 t159 t160 t161 x166003_1 = some (r1, r2, r3, r4)) ∧ Aside0 (kq ≤ k1) ∧ Aside0 (Kd.R (Kd.int .i64) 3 wc w.heap.size (fun _ => True) u166003 x166003_1) ∧ Aside0 (wc.heap[gb156]? = some (.cells #[.int .i64 a0_0, .int .i64 a0_1, .int .i64 a0_2, (.slice A0_3 l0_3.length c0_3)] 27 (0, 0))) ∧ Aside0 (wc.heap[gb157]? = some (.cells #[.int .i64 0, .int .i64 0, .int .i64 0, (.slice none 0 0)] 27 (0, 0))) ∧ Aside0 (wc.heap[gb165]? = some (.cells #[.int .i64 t159, .int .i64 t160, .int .i64 t161, u166003] 27 (0, 0))) ∧ Aside0 (Below w.heap.size w wc))
    case first =>
     have H := HC17.out
     clear HC17
     by_cases c18 : x5_1 < a0_2
     ·rw [if_pos c18] at H
      have c18b0 : decide (x5_1 < a0_2) = true := decide_eq_true c18
      clear c18
      (first | rw [c18b0] | (simp only [zd, zf]; rw [c18b0]) | skip)
      have H' := Aside0.mk H
      clear H
      have hnb19 := NB156_157.out
      have hnc19 := NB157_156.out
      have hnb20 := NB156_165.out
      have hnc20 := NB165_156.out
      have hcz21_0 : wr.cell? ⟨gb156, 0, none⟩ = some (.int .i64 a0_0) := (zb BK156.out 0).trans rfl
      have hcz21_1 : wr.cell? ⟨gb156, 1, none⟩ = some (.int .i64 a0_1) := (zb BK156.out 1).trans rfl
      have hcz21_2 : wr.cell? ⟨gb156, 2, none⟩ = some (.int .i64 a0_2) := (zb BK156.out 2).trans rfl
      have hcz21_3 : wr.cell? ⟨gb156, 3, none⟩ = some (.slice A0_3 l0_3.length c0_3) := (zb BK156.out 3).trans rfl
      have hfz21_0 := za BK156.out 0; have hfz21_1 := za BK156.out 1; have hfz21_2 := za BK156.out 2; have hfz21_3 := za BK156.out 3
      go_wp2
      go_meet
      case rel => exact ⟨_, (decide (x4_1 < a0_1)), (sqD), H', ⟨by have := HK1.out; first | omega | exact Nat.le_refl _⟩, ⟨sqR HO_166003.out⟩, ⟨sqK BK156.out⟩, ⟨sqK BK157.out⟩, ⟨sqK BK165.out⟩, ⟨sqB⟩⟩
     ·rw [if_neg c18] at H
      have c18b0 : decide (x5_1 < a0_2) = false := decide_eq_false c18
      clear c18
      (first | rw [c18b0] | (simp only [zd, zf]; rw [c18b0]) | skip)
      have H' := Aside0.mk H
      clear H
      have hnb22 := NB156_157.out
      have hnc22 := NB157_156.out
      have hnb23 := NB156_165.out
      have hnc23 := NB165_156.out
      have hcz24_0 : wr.cell? ⟨gb156, 0, none⟩ = some (.int .i64 a0_0) := (zb BK156.out 0).trans rfl
      have hcz24_1 : wr.cell? ⟨gb156, 1, none⟩ = some (.int .i64 a0_1) := (zb BK156.out 1).trans rfl
      have hcz24_2 : wr.cell? ⟨gb156, 2, none⟩ = some (.int .i64 a0_2) := (zb BK156.out 2).trans rfl
      have hcz24_3 : wr.cell? ⟨gb156, 3, none⟩ = some (.slice A0_3 l0_3.length c0_3) := (zb BK156.out 3).trans rfl
      have hfz24_0 := za BK156.out 0; have hfz24_1 := za BK156.out 1; have hfz24_2 := za BK156.out 2; have hfz24_3 := za BK156.out 3
      go_wp2
      go_meet
      case rel => exact ⟨_, (false), (sqD), H', ⟨by have := HK1.out; first | omega | exact Nat.le_refl _⟩, ⟨sqR HO_166003.out⟩, ⟨sqK BK156.out⟩, ⟨sqK BK157.out⟩, ⟨sqK BK165.out⟩, ⟨sqB⟩⟩
    case rest =>
     clear HC17
     try clear c1
     try clear c2
     try clear p2
     try clear c3
     try clear c6
     try clear c7
     try clear c13
     try clear c14
     try clear c18
     try clear c18b0
     try clear c19
     try clear c20
     try clear c22
     try clear c23
     try clear hcz10_0
     try clear hcz10_1
     try clear hcz10_2
     try clear hcz10_3
     try clear hcz15_0
     try clear hcz15_1
     try clear hcz15_2
     try clear hcz15_3
     try clear hcz21_0
     try clear hcz21_1
     try clear hcz21_2
     try clear hcz21_3
     try clear hcz24_0
     try clear hcz24_1
     try clear hcz24_2
     try clear hcz24_3
     try clear hcz8_0
     try clear hcz8_1
     try clear hcz8_2
     try clear hcz8_3
     try clear hfz10_0
     try clear hfz10_1
     try clear hfz10_2
     try clear hfz10_3
     try clear hfz15_0
     try clear hfz15_1
     try clear hfz15_2
     try clear hfz15_3
     try clear hfz21_0
     try clear hfz21_1
     try clear hfz21_2
     try clear hfz21_3
     try clear hfz24_0
     try clear hfz24_1
     try clear hfz24_2
     try clear hfz24_3
     try clear hfz8_0
     try clear hfz8_1
     try clear hfz8_2
     try clear hfz8_3
     try clear p2
     obtain ⟨kq, x22_16, rfl, HA, HJ16, HO_166003, BK156, BK157, BK165, HB⟩ := hcut
     cases kq with
     | zero => exact absurd HA.out (by simp [zl.j1])
     | succ kj16 =>
      have H := HA.out
      clear HA
      simp only [zl.j1] at H
      by_cases c25 : x22_16 = true
      ·subst c25
       have H1 : (zl.l1 kj16 x4_1 x5_1 x4_1 a0_0 a0_1 a0_2 l0_3 t159 t160 t161 x166003_1) = some (r1, r2, r3, r4) := by rw [if_pos rfl] at H; exact H
       clear H
       have H := H1
       clear H1
       have HC26 := Aside0.mk H
       clear H
       go_upto_block 2 with (fail)
       go_cut [6] (fun v6 wc => ∃ (kq : Nat) (x6_25 : Int), v6 = .int .i64 x6_25 ∧ Aside0 (zl.j3 kq x4_1 x5_1 x6_25 a0_0 a0_1 a0_2 l0_3 t159 t160 t161 x166003_1 = some (r1, r2, r3, r4)) ∧ Aside0 (kq ≤ kj16) ∧ Aside0 (Kd.R (Kd.int .i64) 3 wc w.heap.size (fun _ => True) u166003 x166003_1) ∧ Aside0 (wc.heap[gb156]? = some (.cells #[.int .i64 a0_0, .int .i64 a0_1, .int .i64 a0_2, (.slice A0_3 l0_3.length c0_3)] 27 (0, 0))) ∧ Aside0 (wc.heap[gb157]? = some (.cells #[.int .i64 0, .int .i64 0, .int .i64 0, (.slice none 0 0)] 27 (0, 0))) ∧ Aside0 (wc.heap[gb165]? = some (.cells #[.int .i64 t159, .int .i64 t160, .int .i64 t161, u166003] 27 (0, 0))) ∧ Aside0 (Below w.heap.size w wc))
       case first =>
        have H := HC26.out
        clear HC26
        have H' := Aside0.mk H
        clear H
        go_wp2
        go_loopg [6] kj16 (fun kq v6 w' => ∃ (x6_3 : Int), v6 = .int .i64 x6_3 ∧ Aside0 (zl.l1 kq x4_1 x5_1 x6_3 a0_0 a0_1 a0_2 l0_3 t159 t160 t161 x166003_1 = some (r1, r2, r3, r4)) ∧ Aside0 (kq ≤ kj16) ∧ Aside0 (Kd.R (Kd.int .i64) 3 w' w.heap.size (fun _ => True) u166003 x166003_1) ∧ Aside0 (w'.heap[gb156]? = some (.cells #[.int .i64 a0_0, .int .i64 a0_1, .int .i64 a0_2, (.slice A0_3 l0_3.length c0_3)] 27 (0, 0))) ∧ Aside0 (w'.heap[gb157]? = some (.cells #[.int .i64 0, .int .i64 0, .int .i64 0, (.slice none 0 0)] 27 (0, 0))) ∧ Aside0 (w'.heap[gb165]? = some (.cells #[.int .i64 t159, .int .i64 t160, .int .i64 t161, u166003] 27 (0, 0))) ∧ Aside0 (Below w.heap.size w w'))
        case atStart => exact ⟨(x4_1), (sqD), H', ⟨Nat.le_refl _⟩, ⟨sqR HO_166003.out⟩, ⟨sqK BK156.out⟩, ⟨sqK BK157.out⟩, ⟨sqK BK165.out⟩, ⟨sqB⟩⟩
        case round =>
         clear H'
         try clear c1
         try clear c2
         try clear p2
         try clear c3
         try clear c6
         try clear c7
         try clear c13
         try clear c14
         try clear c18
         try clear c18b0
         try clear c19
         try clear c20
         try clear c22
         try clear c23
         try clear c25
         try clear hcz10_0
         try clear hcz10_1
         try clear hcz10_2
         try clear hcz10_3
         try clear hcz15_0
         try clear hcz15_1
         try clear hcz15_2
         try clear hcz15_3
         try clear hcz21_0
         try clear hcz21_1
         try clear hcz21_2
         try clear hcz21_3
         try clear hcz24_0
         try clear hcz24_1
         try clear hcz24_2
         try clear hcz24_3
         try clear hcz8_0
         try clear hcz8_1
         try clear hcz8_2
         try clear hcz8_3
         try clear hfz10_0
         try clear hfz10_1
         try clear hfz10_2
         try clear hfz10_3
         try clear hfz15_0
         try clear hfz15_1
         try clear hfz15_2
         try clear hfz15_3
         try clear hfz21_0
         try clear hfz21_1
         try clear hfz21_2
         try clear hfz21_3
         try clear hfz24_0
         try clear hfz24_1
         try clear hfz24_2
         try clear hfz24_3
         try clear hfz8_0
         try clear hfz8_1
         try clear hfz8_2
         try clear hfz8_3
         try clear p2
         obtain ⟨x6_3, rfl, HA, HK3, HO_166003, BK156, BK157, BK165, HB⟩ := hrel
         cases gk with
         | zero => exact absurd HA.out (by simp [zl.l1])
         | succ k3 =>
          have H := HA.out
          clear HA
          simp only [zl.l1] at H
          by_cases c27 : x6_3 < a0_1
          ·rw [if_pos c27] at H
           have c27b0 : decide (x6_3 < a0_1) = true := decide_eq_true c27
           clear c27
           (first | rw [c27b0] | (simp only [zd, zf]; rw [c27b0]) | skip)
           obtain ⟨ji28, hji28⟩ : ∃ j_ : Int, (wrap64 ((wrap64 (x6_3 * a0_2)) + x5_1)) = j_ := ⟨_, rfl⟩
           replace H : (if 0 ≤ (ji28) then (if (ji28) < (x166003_1.length : Int) then (if (rd x166003_1 (ji28)) = 0 then (zl.l1 k3 x4_1 x5_1 (wrap64 (x6_3 + 1)) a0_0 a0_1 a0_2 l0_3 t159 t160 t161 x166003_1) else (zl.j3 k3 x4_1 x5_1 x6_3 a0_0 a0_1 a0_2 l0_3 t159 t160 t161 x166003_1)) else (none)) else (none)) = some (r1, r2, r3, r4) := by first | (rw [hji28] at H; exact H) | (simp only [hji28] at H ⊢; exact H)
           have hji28w : (IntKind.i64.wrap ((wrap64 (x6_3 * a0_2)) + x5_1)) = ji28 := (zd _).trans hji28
           by_cases c29 : 0 ≤ (ji28)
           ·rw [if_pos c29] at H
            have c29b0 : decide (0 ≤ (ji28)) = true := decide_eq_true c29
            clear c29
            by_cases c30 : (ji28) < (x166003_1.length : Int)
            ·rw [if_pos c30] at H
             have c30b0 : decide ((ji28) < (x166003_1.length : Int)) = true := decide_eq_true c30
             clear c30
             by_cases c31 : (rd x166003_1 (ji28)) = 0
             ·rw [if_pos c31] at H
              have c31b0 : ((rd x166003_1 (ji28)) == 0) = true := beq_iff_eq.mpr c31
              have c31b1 : ((rd x166003_1 (ji28)) != 0) = false := bne_eq_false_iff_eq.mpr c31
              clear c31
              have H' := Aside0.mk H
              clear H
              have hnb32 := NB156_157.out
              have hnc32 := NB157_156.out
              have hnb33 := NB156_165.out
              have hnc33 := NB165_156.out
              have hcz34_0 : wr.cell? ⟨gb156, 0, none⟩ = some (.int .i64 a0_0) := (zb BK156.out 0).trans rfl
              have hcz34_1 : wr.cell? ⟨gb156, 1, none⟩ = some (.int .i64 a0_1) := (zb BK156.out 1).trans rfl
              have hcz34_2 : wr.cell? ⟨gb156, 2, none⟩ = some (.int .i64 a0_2) := (zb BK156.out 2).trans rfl
              have hcz34_3 : wr.cell? ⟨gb156, 3, none⟩ = some (.slice A0_3 l0_3.length c0_3) := (zb BK156.out 3).trans rfl
              have hfz34_0 := za BK156.out 0; have hfz34_1 := za BK156.out 1; have hfz34_2 := za BK156.out 2; have hfz34_3 := za BK156.out 3
              have hnb35 := NB165_157.out
              have hnc35 := NB157_165.out
              have hcz36_0 : wr.cell? ⟨gb165, 0, none⟩ = some (.int .i64 t159) := (zb BK165.out 0).trans rfl
              have hcz36_1 : wr.cell? ⟨gb165, 1, none⟩ = some (.int .i64 t160) := (zb BK165.out 1).trans rfl
              have hcz36_2 : wr.cell? ⟨gb165, 2, none⟩ = some (.int .i64 t161) := (zb BK165.out 2).trans rfl
              have hcz36_3 : wr.cell? ⟨gb165, 3, none⟩ = some (u166003) := (zb BK165.out 3).trans rfl
              have hfz36_0 := za BK165.out 0; have hfz36_1 := za BK165.out 1; have hfz36_2 := za BK165.out 2; have hfz36_3 := za BK165.out 3
              obtain ⟨Ao37, co37, eo37⟩ := Kd.z1 HO_166003.out
              subst eo37
              have p176 : 0 ≤ ((ji28) : Int) := of_decide_eq_true sqA
              have q176 : (ji28) < (x166003_1.length : Int) := of_decide_eq_true sqA
              obtain ⟨ad176, e176, hx176_0⟩ := Kd.qd (Kd.zC HO_166003.out).2.2 (ji28) p176 q176
              cases e176
              replace p176 := eq_true p176
              replace q176 := eq_true q176
              go_wp2
              go_roundg k3
              case measure => have := HK1.out; have := HJ16.out; have := HK3.out; omega
              case rel => exact ⟨(wrap64 (x6_3 + 1)), (sqD), H', ⟨by have := HK1.out; have := HJ16.out; have := HK3.out; omega⟩, ⟨sqR HO_166003.out⟩, ⟨sqK BK156.out⟩, ⟨sqK BK157.out⟩, ⟨sqK BK165.out⟩, ⟨sqB⟩⟩
             ·rw [if_neg c31] at H
              have c31b0 : ((rd x166003_1 (ji28)) == 0) = false := beq_eq_false_iff_ne.mpr c31
              have c31b1 : ((rd x166003_1 (ji28)) != 0) = true := bne_iff_ne.mpr c31
              have H' := Aside0.mk H
              clear H
              have hnb38 := NB156_157.out
              have hnc38 := NB157_156.out
              have hnb39 := NB156_165.out
              have hnc39 := NB165_156.out
              have hcz40_0 : wr.cell? ⟨gb156, 0, none⟩ = some (.int .i64 a0_0) := (zb BK156.out 0).trans rfl
              have hcz40_1 : wr.cell? ⟨gb156, 1, none⟩ = some (.int .i64 a0_1) := (zb BK156.out 1).trans rfl
              have hcz40_2 : wr.cell? ⟨gb156, 2, none⟩ = some (.int .i64 a0_2) := (zb BK156.out 2).trans rfl
              have hcz40_3 : wr.cell? ⟨gb156, 3, none⟩ = some (.slice A0_3 l0_3.length c0_3) := (zb BK156.out 3).trans rfl
              have hfz40_0 := za BK156.out 0; have hfz40_1 := za BK156.out 1; have hfz40_2 := za BK156.out 2; have hfz40_3 := za BK156.out 3
              have hnb41 := NB165_157.out
              have hnc41 := NB157_165.out
              have hcz42_0 : wr.cell? ⟨gb165, 0, none⟩ = some (.int .i64 t159) := (zb BK165.out 0).trans rfl
              have hcz42_1 : wr.cell? ⟨gb165, 1, none⟩ = some (.int .i64 t160) := (zb BK165.out 1).trans rfl
              have hcz42_2 : wr.cell? ⟨gb165, 2, none⟩ = some (.int .i64 t161) := (zb BK165.out 2).trans rfl
              have hcz42_3 : wr.cell? ⟨gb165, 3, none⟩ = some (u166003) := (zb BK165.out 3).trans rfl
              have hfz42_0 := za BK165.out 0; have hfz42_1 := za BK165.out 1; have hfz42_2 := za BK165.out 2; have hfz42_3 := za BK165.out 3
              obtain ⟨Ao43, co43, eo43⟩ := Kd.z1 HO_166003.out
              subst eo43
              have p176 : 0 ≤ ((ji28) : Int) := of_decide_eq_true sqA
              have q176 : (ji28) < (x166003_1.length : Int) := of_decide_eq_true sqA
              obtain ⟨ad176, e176, hx176_0⟩ := Kd.qd (Kd.zC HO_166003.out).2.2 (ji28) p176 q176
              cases e176
              replace p176 := eq_true p176
              replace q176 := eq_true q176
              go_wp2
              go_meet
              case rel => exact ⟨_, (x6_3), (sqD), H', ⟨by have := HK1.out; have := HJ16.out; have := HK3.out; first | omega | exact Nat.le_refl _⟩, ⟨sqR HO_166003.out⟩, ⟨sqK BK156.out⟩, ⟨sqK BK157.out⟩, ⟨sqK BK165.out⟩, ⟨sqB⟩⟩
            ·rw [if_neg c30] at H
             exact absurd H (by simp)
           ·rw [if_neg c29] at H
            exact absurd H (by simp)
          ·rw [if_neg c27] at H
           have c27b0 : decide (x6_3 < a0_1) = false := decide_eq_false c27
           clear c27
           (first | rw [c27b0] | (simp only [zd, zf]; rw [c27b0]) | skip)
           have H' := Aside0.mk H
           clear H
           have hnb44 := NB156_157.out
           have hnc44 := NB157_156.out
           have hnb45 := NB156_165.out
           have hnc45 := NB165_156.out
           have hcz46_0 : wr.cell? ⟨gb156, 0, none⟩ = some (.int .i64 a0_0) := (zb BK156.out 0).trans rfl
           have hcz46_1 : wr.cell? ⟨gb156, 1, none⟩ = some (.int .i64 a0_1) := (zb BK156.out 1).trans rfl
           have hcz46_2 : wr.cell? ⟨gb156, 2, none⟩ = some (.int .i64 a0_2) := (zb BK156.out 2).trans rfl
           have hcz46_3 : wr.cell? ⟨gb156, 3, none⟩ = some (.slice A0_3 l0_3.length c0_3) := (zb BK156.out 3).trans rfl
           have hfz46_0 := za BK156.out 0; have hfz46_1 := za BK156.out 1; have hfz46_2 := za BK156.out 2; have hfz46_3 := za BK156.out 3
           go_wp2
           go_meet
           case rel => exact ⟨_, (x6_3), (sqD), H', ⟨by have := HK1.out; have := HJ16.out; have := HK3.out; first | omega | exact Nat.le_refl _⟩, ⟨sqR HO_166003.out⟩, ⟨sqK BK156.out⟩, ⟨sqK BK157.out⟩, ⟨sqK BK165.out⟩, ⟨sqB⟩⟩
       case rest =>
        clear HC26
        try clear c1
        try clear p1
        try clear q1
        try clear hx1
        try clear c2
        try clear p2
        try clear c3
        try clear c4
        try clear c6
        try clear p6
        try clear c7
        try clear c13
        try clear c14
        try clear p17
        try clear q17
        try clear hx17
        try clear c18
        try clear c18b0
        try clear c19
        try clear c20
        try clear c22
        try clear c23
        try clear c25
        try clear c27
        try clear c27b0
        try clear c29
        try clear c29b0
        try clear c30
        try clear c30b0
        try clear c31
        try clear c31b0
        try clear c31b1
        try clear c32
        try clear c33
        try clear c35
        try clear c37
        try clear c38
        try clear c39
        try clear c41
        try clear c44
        try clear c45
        try clear hcz10_0
        try clear hcz10_1
        try clear hcz10_2
        try clear hcz10_3
        try clear hcz15_0
        try clear hcz15_1
        try clear hcz15_2
        try clear hcz15_3
        try clear hcz21_0
        try clear hcz21_1
        try clear hcz21_2
        try clear hcz21_3
        try clear hcz24_0
        try clear hcz24_1
        try clear hcz24_2
        try clear hcz24_3
        try clear hcz34_0
        try clear hcz34_1
        try clear hcz34_2
        try clear hcz34_3
        try clear hcz36_0
        try clear hcz36_1
        try clear hcz36_2
        try clear hcz36_3
        try clear hcz40_0
        try clear hcz40_1
        try clear hcz40_2
        try clear hcz40_3
        try clear hcz42_0
        try clear hcz42_1
        try clear hcz42_2
        try clear hcz42_3
        try clear hcz46_0
        try clear hcz46_1
        try clear hcz46_2
        try clear hcz46_3
        try clear hcz8_0
        try clear hcz8_1
        try clear hcz8_2
        try clear hcz8_3
        try clear hfz10_0
        try clear hfz10_1
        try clear hfz10_2
        try clear hfz10_3
        try clear hfz15_0
        try clear hfz15_1
        try clear hfz15_2
        try clear hfz15_3
        try clear hfz21_0
        try clear hfz21_1
        try clear hfz21_2
        try clear hfz21_3
        try clear hfz24_0
        try clear hfz24_1
        try clear hfz24_2
        try clear hfz24_3
        try clear hfz34_0
        try clear hfz34_1
        try clear hfz34_2
        try clear hfz34_3
        try clear hfz36_0
        try clear hfz36_1
        try clear hfz36_2
        try clear hfz36_3
        try clear hfz40_0
        try clear hfz40_1
        try clear hfz40_2
        try clear hfz40_3
        try clear hfz42_0
        try clear hfz42_1
        try clear hfz42_2
        try clear hfz42_3
        try clear hfz46_0
        try clear hfz46_1
        try clear hfz46_2
        try clear hfz46_3
        try clear hfz8_0
        try clear hfz8_1
        try clear hfz8_2
        try clear hfz8_3
        try clear hx176_0
        try clear p176
        try clear p2
        try clear q176
        obtain ⟨kq, x6_25, rfl, HA, HJ25, HO_166003, BK156, BK157, BK165, HB⟩ := hcut
        cases kq with
        | zero => exact absurd HA.out (by simp [zl.j3])
        | succ kj25 =>
         have H := HA.out
         clear HA
         simp only [zl.j3] at H
         by_cases c47 : x6_25 = a0_1
         ·rw [if_pos c47] at H
          have c47b0 : (x6_25 == a0_1) = true := beq_iff_eq.mpr c47
          have c47b1 : (x6_25 != a0_1) = false := bne_eq_false_iff_eq.mpr c47
          clear c47
          have H' := Aside0.mk H
          clear H
          have hnb48 := NB156_157.out
          have hnc48 := NB157_156.out
          have hnb49 := NB156_165.out
          have hnc49 := NB165_156.out
          have hcz50_0 : wc.cell? ⟨gb156, 0, none⟩ = some (.int .i64 a0_0) := (zb BK156.out 0).trans rfl
          have hcz50_1 : wc.cell? ⟨gb156, 1, none⟩ = some (.int .i64 a0_1) := (zb BK156.out 1).trans rfl
          have hcz50_2 : wc.cell? ⟨gb156, 2, none⟩ = some (.int .i64 a0_2) := (zb BK156.out 2).trans rfl
          have hcz50_3 : wc.cell? ⟨gb156, 3, none⟩ = some (.slice A0_3 l0_3.length c0_3) := (zb BK156.out 3).trans rfl
          have hfz50_0 := za BK156.out 0; have hfz50_1 := za BK156.out 1; have hfz50_2 := za BK156.out 2; have hfz50_3 := za BK156.out 3
          go_wp2
          go_roundg kj25
          case measure => have := HK1.out; have := HJ16.out; have := HJ25.out; omega
          case rel => exact ⟨(x4_1), (wrap64 (x5_1 + 1)), (x166003_1), (u166003), (sqD), (sqD), H', ⟨by have := HK1.out; have := HJ16.out; have := HJ25.out; omega⟩, ⟨sqR HO_166003.out⟩, ⟨sqK BK156.out⟩, ⟨sqK BK157.out⟩, ⟨sqK BK165.out⟩, ⟨sqB⟩⟩
         ·rw [if_neg c47] at H
          have c47b0 : (x6_25 == a0_1) = false := beq_eq_false_iff_ne.mpr c47
          have c47b1 : (x6_25 != a0_1) = true := bne_iff_ne.mpr c47
          replace H := Option.bind_eq_some_iff.mp H
          obtain ⟨t177, A510, H⟩ := H
          replace H : ((zg.f kj25 t159 t160 t161 t177 x4_1 x5_1).bind fun t178 => (zl.l0 kj25 (wrap64 (x4_1 + 1)) (wrap64 (x5_1 + 1)) a0_0 a0_1 a0_2 l0_3 t159 t160 t161 t178)) = some (r1, r2, r3, r4) := H
          have A51 := Aside0.mk A510
          clear A510
          replace H := Option.bind_eq_some_iff.mp H
          obtain ⟨t178, A520, H⟩ := H
          replace H : (zl.l0 kj25 (wrap64 (x4_1 + 1)) (wrap64 (x5_1 + 1)) a0_0 a0_1 a0_2 l0_3 t159 t160 t161 t178) = some (r1, r2, r3, r4) := H
          have A52 := Aside0.mk A520
          clear A520
          have H' := Aside0.mk H
          clear H
          have hnb53 := NB156_157.out
          have hnc53 := NB157_156.out
          have hnb54 := NB156_165.out
          have hnc54 := NB165_156.out
          have hcz55_0 : wc.cell? ⟨gb156, 0, none⟩ = some (.int .i64 a0_0) := (zb BK156.out 0).trans rfl
          have hcz55_1 : wc.cell? ⟨gb156, 1, none⟩ = some (.int .i64 a0_1) := (zb BK156.out 1).trans rfl
          have hcz55_2 : wc.cell? ⟨gb156, 2, none⟩ = some (.int .i64 a0_2) := (zb BK156.out 2).trans rfl
          have hcz55_3 : wc.cell? ⟨gb156, 3, none⟩ = some (.slice A0_3 l0_3.length c0_3) := (zb BK156.out 3).trans rfl
          have hfz55_0 := za BK156.out 0; have hfz55_1 := za BK156.out 1; have hfz55_2 := za BK156.out 2; have hfz55_3 := za BK156.out 3
          have hnb56 := NB165_157.out
          have hnc56 := NB157_165.out
          have hcz57_0 : wc.cell? ⟨gb165, 0, none⟩ = some (.int .i64 t159) := (zb BK165.out 0).trans rfl
          have hcz57_1 : wc.cell? ⟨gb165, 1, none⟩ = some (.int .i64 t160) := (zb BK165.out 1).trans rfl
          have hcz57_2 : wc.cell? ⟨gb165, 2, none⟩ = some (.int .i64 t161) := (zb BK165.out 2).trans rfl
          have hcz57_3 : wc.cell? ⟨gb165, 3, none⟩ = some (u166003) := (zb BK165.out 3).trans rfl
          have hfz57_0 := za BK165.out 0; have hfz57_1 := za BK165.out 1; have hfz57_2 := za BK165.out 2; have hfz57_3 := za BK165.out 3
          obtain ⟨Ao58, co58, eo58⟩ := Kd.z1 HO_166003.out
          subst eo58
          go_wp2_with (first | ((with_reducible refine zt (f := 61) rfl ?_); refine zN (some 52) rfl rfl Try.func61 (by kernel_rfl) rfl #[.agg #[.int .i64 t159, .int .i64 t160, .int .i64 t161, .slice Ao58 x166003_1.length co58], .int .i64 x4_1, .int .i64 x6_25] rfl sqM ?_; (with_reducible refine (zF.calls kj25 t159 t160 t161 (fun k_ => some k_ = (.slice Ao58 x166003_1.length co58 : Value).ownBlock) (.slice Ao58 x166003_1.length co58) x166003_1 x4_1 x6_25 t177 w _ ?side1 ?side2 A51.out).mono ?_); (case side1 => repeat (first | (with_reducible first | exact HB.out | apply zZ | apply zW | apply zL | refine zM ?_ GE156.out | refine zM ?_ GE157.out | refine zM ?_ GE165.out) | exact HB.out)); (case side2 => exact Kd.vX rfl HO_166003.out); rintro e w59 ⟨rfl, hy0, hb, hkp⟩; refine ⟨_, rfl, ?_⟩; have n0_ := Aside0.mk (Kd.Q4 rfl hy0 (fun k_ e_ => HO_166003.out.1 k_ e_)); have n1_ := Aside0.mk (j7 (sqK BK156.out) hkp (fun hs_ => (fun e_ => (Kd.jr HO_166003.out BK156.out (by decide)) e_) hs_)); have n2_ := Aside0.mk (j7 (sqK BK157.out) hkp (fun hs_ => (fun e_ => (Kd.jr HO_166003.out BK157.out (by decide)) e_) hs_)); have n3_ := Aside0.mk (j7 (sqK BK165.out) hkp (fun hs_ => (fun e_ => (Kd.jr HO_166003.out BK165.out (by decide)) e_) hs_)); have n4_ := Aside0.mk (hb); clear HO_166003; clear BK156; clear BK157; clear BK165; clear HB; have HO_166003 := n0_; have BK156 := n1_; have BK157 := n2_; have BK165 := n3_; have HB := n4_; clear n0_ n1_ n2_ n3_ n4_; (try clear hb); (try clear hkp); (try clear hy0); have hcz60_0 : w59.cell? ⟨gb165, 0, none⟩ = some (.int .i64 t159) := (zb BK165.out 0).trans rfl; have hcz60_1 : w59.cell? ⟨gb165, 1, none⟩ = some (.int .i64 t160) := (zb BK165.out 1).trans rfl; have hcz60_2 : w59.cell? ⟨gb165, 2, none⟩ = some (.int .i64 t161) := (zb BK165.out 2).trans rfl; have hcz60_3 : w59.cell? ⟨gb165, 3, none⟩ = some (.slice Ao58 x166003_1.length co58) := (zb BK165.out 3).trans rfl; have hfz60_0 := za BK165.out 0; have hfz60_1 := za BK165.out 1; have hfz60_2 := za BK165.out 2; have hfz60_3 := za BK165.out 3) | ((with_reducible refine zt (f := 62) rfl ?_); refine zN (some 56) rfl rfl Try.func62 (by kernel_rfl) rfl #[.agg #[.int .i64 t159, .int .i64 t160, .int .i64 t161, .slice Ao58 x166003_1.length co58], .int .i64 x4_1, .int .i64 x5_1] rfl sqM ?_; (with_reducible refine (zg.calls kj25 t159 t160 t161 (fun k_ => some k_ = (.slice Ao58 x166003_1.length co58 : Value).ownBlock) (.slice Ao58 x166003_1.length co58) t177 x4_1 x5_1 t178 w _ ?side1 ?side2 A52.out).mono ?_); (case side1 => repeat (first | (with_reducible first | exact HB.out | apply zZ | apply zW | apply zL | refine zM ?_ GE156.out | refine zM ?_ GE157.out | refine zM ?_ GE165.out) | exact HB.out)); (case side2 => exact Kd.vX rfl HO_166003.out); rintro e w61 ⟨rfl, hy0, hb, hkp⟩; refine ⟨_, rfl, ?_⟩; have n0_ := Aside0.mk (Kd.Q4 rfl hy0 (fun k_ e_ => HO_166003.out.1 k_ e_)); have n1_ := Aside0.mk (j7 (sqK BK156.out) hkp (fun hs_ => (fun e_ => (Kd.jr HO_166003.out BK156.out (by decide)) e_) hs_)); have n2_ := Aside0.mk (j7 (sqK BK157.out) hkp (fun hs_ => (fun e_ => (Kd.jr HO_166003.out BK157.out (by decide)) e_) hs_)); have n3_ := Aside0.mk (j7 (sqK BK165.out) hkp (fun hs_ => (fun e_ => (Kd.jr HO_166003.out BK165.out (by decide)) e_) hs_)); have n4_ := Aside0.mk (hb); clear HO_166003; clear BK156; clear BK157; clear BK165; clear HB; have HO_166003 := n0_; have BK156 := n1_; have BK157 := n2_; have BK165 := n3_; have HB := n4_; clear n0_ n1_ n2_ n3_ n4_; (try clear hb); (try clear hkp); (try clear hy0)))
          go_roundg kj25
          case measure => have := HK1.out; have := HJ16.out; have := HJ25.out; omega
          case rel => exact ⟨(wrap64 (x4_1 + 1)), (wrap64 (x5_1 + 1)), (t178), (.slice Ao58 x166003_1.length co58), (sqD), (sqD), H', ⟨by have := HK1.out; have := HJ16.out; have := HJ25.out; omega⟩, ⟨sqR HO_166003.out⟩, ⟨sqK BK156.out⟩, ⟨sqK BK157.out⟩, ⟨sqK BK165.out⟩, ⟨sqB⟩⟩
      ·replace c25 := Bool.eq_false_iff.mpr c25
       subst c25
       have H1 : ((some (([] : List Int) : List Int)).bind fun y166 => (if 0 ≤ (wrap64 (x4_1 * a0_2)) then (if (wrap64 (x4_1 * a0_2)) ≤ (x166003_1.length : Int) then ((some (x166003_1.take ((wrap64 (x4_1 * a0_2)) : Int).toNat : List Int)).bind fun y169 => (if y166.length + y169.length < 17592186044416 then (some (t159, x4_1, t161, (y166 ++ y169))) else (none))) else (none)) else (none))) = some (r1, r2, r3, r4) := by rw [if_neg (show ¬ (false = true) by decide)] at H; exact H
       clear H
       have H := H1
       clear H1
       obtain ⟨y166, hy166⟩ : ∃ y_ : List Int, y_ = (([] : List Int)) := ⟨_, rfl⟩
       replace H : (if 0 ≤ (wrap64 (x4_1 * a0_2)) then (if (wrap64 (x4_1 * a0_2)) ≤ (x166003_1.length : Int) then ((some (x166003_1.take ((wrap64 (x4_1 * a0_2)) : Int).toNat : List Int)).bind fun y169 => (if y166.length + y169.length < 17592186044416 then (some (t159, x4_1, t161, (y166 ++ y169))) else (none))) else (none)) else (none)) = some (r1, r2, r3, r4) := by first | (rw [hy166]; with_reducible exact H) | (have H2_ := (Option.bind_some _ _).symm.trans H; rw [hy166]; with_reducible exact H2_) | (have H2_ := (Option.bind_some _ _).symm.trans H; with_reducible exact H2_) | with_reducible exact H | (rw [hy166]; exact H) | exact H
       have Ny166 := Aside0.mk hy166
       clear hy166
       obtain ⟨ji62, hji62⟩ : ∃ j_ : Int, (wrap64 (x4_1 * a0_2)) = j_ := ⟨_, rfl⟩
       replace H : (if 0 ≤ (ji62) then (if (ji62) ≤ (x166003_1.length : Int) then ((some (x166003_1.take ((ji62) : Int).toNat : List Int)).bind fun y169 => (if y166.length + y169.length < 17592186044416 then (some (t159, x4_1, t161, (y166 ++ y169))) else (none))) else (none)) else (none)) = some (r1, r2, r3, r4) := by first | (rw [hji62] at H; exact H) | (simp only [hji62] at H ⊢; exact H)
       have hji62w : (IntKind.i64.wrap (x4_1 * a0_2)) = ji62 := (zd _).trans hji62
       by_cases c63 : 0 ≤ (ji62)
       ·rw [if_pos c63] at H
        have c63b0 := eq_true c63
        have c63b1 : decide (0 ≤ (ji62)) = true := decide_eq_true c63
        clear c63
        by_cases c64 : (ji62) ≤ (x166003_1.length : Int)
        ·rw [if_pos c64] at H
         have c64b0 := eq_true c64
         have c64b1 : decide ((ji62) ≤ (x166003_1.length : Int)) = true := decide_eq_true c64
         clear c64
         obtain ⟨y169, hy169⟩ : ∃ y_ : List Int, y_ = (x166003_1.take ((ji62) : Int).toNat) := ⟨_, rfl⟩
         replace H : (if y166.length + y169.length < 17592186044416 then (some (t159, x4_1, t161, (y166 ++ y169))) else (none)) = some (r1, r2, r3, r4) := by first | (rw [hy169]; with_reducible exact H) | (have H2_ := (Option.bind_some _ _).symm.trans H; rw [hy169]; with_reducible exact H2_) | (have H2_ := (Option.bind_some _ _).symm.trans H; with_reducible exact H2_) | with_reducible exact H | (rw [hy169]; exact H) | exact H
         have Ny169 := Aside0.mk hy169
         clear hy169
         by_cases c65 : y166.length + y169.length < 17592186044416
         ·rw [if_pos c65] at H
          have LMc65 := Aside0.mk c65
          clear c65
          obtain ⟨y173, hy173⟩ : ∃ y_ : List Int, y_ = (y166 ++ y169) := ⟨_, rfl⟩
          replace H : (some (t159, x4_1, t161, y173)) = some (r1, r2, r3, r4) := by first | (rw [hy173]; with_reducible exact H) | (have H2_ := (Option.bind_some _ _).symm.trans H; rw [hy173]; with_reducible exact H2_) | (have H2_ := (Option.bind_some _ _).symm.trans H; with_reducible exact H2_) | with_reducible exact H | (rw [hy173]; exact H) | exact H
          have Ny173 := Aside0.mk hy173
          clear hy173
          simp only [Option.some.injEq, Prod.mk.injEq] at H
          obtain ⟨rfl, rfl, rfl, rfl⟩ := H
          have hnb66 := NB165_156.out
          have hnc66 := NB156_165.out
          have hnb67 := NB165_157.out
          have hnc67 := NB157_165.out
          have hcz68_0 : wc.cell? ⟨gb165, 0, none⟩ = some (.int .i64 t159) := (zb BK165.out 0).trans rfl
          have hcz68_1 : wc.cell? ⟨gb165, 1, none⟩ = some (.int .i64 t160) := (zb BK165.out 1).trans rfl
          have hcz68_2 : wc.cell? ⟨gb165, 2, none⟩ = some (.int .i64 t161) := (zb BK165.out 2).trans rfl
          have hcz68_3 : wc.cell? ⟨gb165, 3, none⟩ = some (u166003) := (zb BK165.out 3).trans rfl
          have hfz68_0 := za BK165.out 0; have hfz68_1 := za BK165.out 1; have hfz68_2 := za BK165.out 2; have hfz68_3 := za BK165.out 3
          go_wp2_with (first | ((with_reducible refine zx (N := 61) rfl ?_); refine Kd.y7 (Kd.int .i64) _ 3 ?hg (N := 61) ?hd (xs := ([] : List Int)) (inner := []) (ok := fun _ => True) (okp := fun _ => True) ?hr ?hp (fun _ hk => hk) trivial (Below.refl _ _) (Nat.le_refl _) (by simp) ?_; (case hd => rfl); (case hg => rfl); (case hr => exact sqG); (case hp => exact (qi.none _ _)); intro v167 w69 ho70 hb hg_ hnew_; clear hg_ hnew_; (first | rw [← Ny166.out] at ho70 | (simp only [Int.reduceToNat] at ho70; rw [← Ny166.out] at ho70)); have n0_ := Aside0.mk (Kd.vy (by refine sqR ?_; exact (Kd.zO (Kd.zP (p := ⟨gb165, 1, none⟩) (Kd.qt HO_166003.out BK165.out (by decide)) (fun _ hk => hk.2) (.int .i64 x4_1)) (fun _ h_ => h_.1))) (Kd.vr ho70) hb); have n1_ := Aside0.mk (Kd.qE (Kd.yo ho70 (Kd.ZB (by refine sqR ?_; exact (Kd.zO (Kd.zP (p := ⟨gb165, 1, none⟩) (Kd.qt HO_166003.out BK165.out (by decide)) (fun _ hk => hk.2) (.int .i64 x4_1)) (fun _ h_ => h_.1))))) (zI sqB)); have n2_ := Aside0.mk (zq (g := gb156) (o := .cells #[.int .i64 a0_0, .int .i64 a0_1, .int .i64 a0_2, .slice A0_3 l0_3.length c0_3] 27 (0, 0)) (by refine sqK ?_; refine zB ?_ NB156_165.out _; refine sqK ?_; exact BK156.out) hb); have n3_ := Aside0.mk (zq (g := gb157) (o := .cells #[.int .i64 0, .int .i64 0, .int .i64 0, .slice none 0 0] 27 (0, 0)) (by refine sqK ?_; refine zB ?_ NB157_165.out _; refine sqK ?_; exact BK157.out) hb); have n4_ := Aside0.mk (zq (g := gb165) (o := .cells #[.int .i64 t159, .int .i64 x4_1, .int .i64 t161, u166003] 27 (0, 0)) (by refine sqK ?_; refine zG (cs := #[.int .i64 t159, .int .i64 t160, .int .i64 t161, u166003]) ?_ 1 _ rfl; refine sqK ?_; exact BK165.out) hb); have n5_ := Aside0.mk (zj sqB hb); clear HO_166003; clear BK156; clear BK157; clear BK165; clear HB; have HO_166003 := n0_; have HO168 := n1_; have BK156 := n2_; have BK157 := n3_; have BK165 := n4_; have HB := n5_; clear n0_ n1_ n2_ n3_ n4_ n5_; clear hb ho70; have hcz71_0 : w69.cell? ⟨gb165, 0, none⟩ = some (.int .i64 t159) := (zb BK165.out 0).trans rfl; have hcz71_1 : w69.cell? ⟨gb165, 1, none⟩ = some (.int .i64 x4_1) := (zb BK165.out 1).trans rfl; have hcz71_2 : w69.cell? ⟨gb165, 2, none⟩ = some (.int .i64 t161) := (zb BK165.out 2).trans rfl; have hcz71_3 : w69.cell? ⟨gb165, 3, none⟩ = some (u166003) := (zb BK165.out 3).trans rfl; have hfz71_0 := za BK165.out 0; have hfz71_1 := za BK165.out 1; have hfz71_2 := za BK165.out 2; have hfz71_3 := za BK165.out 3; have hnb72 := NB156_157.out; have hnc72 := NB157_156.out; have hcz73_0 : w69.cell? ⟨gb156, 0, none⟩ = some (.int .i64 a0_0) := (zb BK156.out 0).trans rfl; have hcz73_1 : w69.cell? ⟨gb156, 1, none⟩ = some (.int .i64 a0_1) := (zb BK156.out 1).trans rfl; have hcz73_2 : w69.cell? ⟨gb156, 2, none⟩ = some (.int .i64 a0_2) := (zb BK156.out 2).trans rfl; have hcz73_3 : w69.cell? ⟨gb156, 3, none⟩ = some (.slice A0_3 l0_3.length c0_3) := (zb BK156.out 3).trans rfl; have hfz73_0 := za BK156.out 0; have hfz73_1 := za BK156.out 1; have hfz73_2 := za BK156.out 2; have hfz73_3 := za BK156.out 3; obtain ⟨Ao75, co75, eo75⟩ := Kd.z1 HO_166003.out; subst eo75; have q74 : ((ji62) : Int) ≤ ((x166003_1.length : Int) : Int) := of_decide_eq_true sqA; obtain ⟨i074, hi074, _, hsz74, _⟩ := info_parts vU; have hroom74 : x166003_1.length ≤ co75 := (Kd.zC HO_166003.out).2.1; have hC74 : Kd.C (Kd.int .i64) _ Ao75 x166003_1.length x166003_1 := (Kd.zC HO_166003.out).2.2; have hcut74 := Vw (P := Try.prog) 22 3 .i64 Try.underlying22 hi074 Ao75 x166003_1.length co75 (ji62) (of_decide_eq_true sqA) q74 hroom74; have hr74 := Kd.Qw (m := ((ji62) : Int).toNat) hC74 (by omega); have hy74 : y169.length = ((ji62) : Int).toNat := (by rw [Ny169.out, List.length_take]; omega); rw [← Ny169.out] at hr74; rw [← hy74] at hcut74; have HR172 := Aside0.mk hr74; have HC172 := Aside0.mk (show y169.length ≤ co75 from by omega); clear hr74 hC74 hroom74 hi074 hsz74; have KY74 := Aside0.mk hy74; clear hy74; have KL74 := Aside0.mk (show ((ji62) : Int).toNat ≤ x166003_1.length from by omega); replace q74 := eq_true q74) | ((with_reducible refine qW (b := .append) (xs := #[.tmp 61, .tmp 68]) rfl ?_); at_builtin; refine Kd.jJ (Kd.int .i64) (w0 := w) w.heap.size rfl (.tmp 61) (.tmp 68) 22 3 (.int .i64 0) 8 rfl Try.underlying22 vU rfl (by decide) (by omega) v167 y166 y169 _ _ _ (fun k_ => some k_ ≠ (.slice Ao75 x166003_1.length co75 : Value).ownBlock) (fun _ => False) rfl rfl ?aO ?aR (fun _ _ h => h) (fun _ h => h.elim) ?aF ?aB ?aS ?aL ?_; (case aR => exact sqC (by repeat (first | (with_reducible exact HR172.out) | (with_reducible refine Kd.jX ?_ _) | (with_reducible refine Kd.jY ?_ _) | (with_reducible refine Kd.vI ?_) | exact HR172.out))); (case aB => exact sqB); (case aF => exact (fun k_ hk => Kd.Qr (Kd.ZB (sqR HO_166003.out)) k_ hk)); (case aO => exact (by refine sqR ?_; exact Kd.zO HO168.out (fun _ hk => hk.2))); (case aS => exact (zI sqB)); (case aL => have := LMc65.out; omega); intro v174 w76 ho hb hg hat; rw [← Ny173.out] at ho; have n0_ := Aside0.mk (Kd.vY (ok := (fun _ => True)) (sqR HO_166003.out) hg hat); have n1_ := Aside0.mk (qm (g := gb156) (o := .cells #[.int .i64 a0_0, .int .i64 a0_1, .int .i64 a0_2, .slice A0_3 l0_3.length c0_3] 27 (0, 0)) (sqK BK156.out) hg (Kd.jr HO168.out BK156.out (by decide))); have n2_ := Aside0.mk (qm (g := gb157) (o := .cells #[.int .i64 0, .int .i64 0, .int .i64 0, .slice none 0 0] 27 (0, 0)) (sqK BK157.out) hg (Kd.jr HO168.out BK157.out (by decide))); have n3_ := Aside0.mk (qm (g := gb165) (o := .cells #[.int .i64 t159, .int .i64 x4_1, .int .i64 t161, .slice Ao75 x166003_1.length co75] 27 (0, 0)) (sqK BK165.out) hg (Kd.jr HO168.out BK165.out (by decide))); have n4_ := Aside0.mk (hb); have n5_ := Aside0.mk ((show Kd.C (Kd.int .i64) w76 Ao75 y169.length y169 from by rw [Ny169.out]; exact Kd.Qw (m := ((ji62) : Int).toNat) ((Kd.zC (Kd.vY (ok := (fun _ => True)) (sqR HO_166003.out) hg hat)).2.2) KL74.out)); have n6_ := Aside0.mk (ho); clear HO_166003; clear BK156; clear BK157; clear BK165; clear HB; clear HR172; clear HO168; have HO_166003 := n0_; have BK156 := n1_; have BK157 := n2_; have BK165 := n3_; have HB := n4_; have HR172 := n5_; have HO175 := n6_; clear n0_ n1_ n2_ n3_ n4_ n5_ n6_; clear ho hb hg hat; obtain ⟨Ao77, co77, eo77⟩ := Kd.z1 HO175.out; subst eo77; have hcz78_0 : w76.cell? ⟨gb165, 0, none⟩ = some (.int .i64 t159) := (zb BK165.out 0).trans rfl; have hcz78_1 : w76.cell? ⟨gb165, 1, none⟩ = some (.int .i64 x4_1) := (zb BK165.out 1).trans rfl; have hcz78_2 : w76.cell? ⟨gb165, 2, none⟩ = some (.int .i64 t161) := (zb BK165.out 2).trans rfl; have hcz78_3 : w76.cell? ⟨gb165, 3, none⟩ = some (.slice Ao75 x166003_1.length co75) := (zb BK165.out 3).trans rfl; have hfz78_0 := za BK165.out 0; have hfz78_1 := za BK165.out 1; have hfz78_2 := za BK165.out 2; have hfz78_3 := za BK165.out 3; have hcz79_0 : w76.cell? ⟨gb157, 0, none⟩ = some (.int .i64 0) := (zb BK157.out 0).trans rfl; have hcz79_1 : w76.cell? ⟨gb157, 1, none⟩ = some (.int .i64 0) := (zb BK157.out 1).trans rfl; have hcz79_2 : w76.cell? ⟨gb157, 2, none⟩ = some (.int .i64 0) := (zb BK157.out 2).trans rfl; have hcz79_3 : w76.cell? ⟨gb157, 3, none⟩ = some (.slice none 0 0) := (zb BK157.out 3).trans rfl; have hfz79_0 := za BK157.out 0; have hfz79_1 := za BK157.out 1; have hfz79_2 := za BK157.out 2; have hfz79_3 := za BK157.out 3))
          refine bodyPost_ret (results_cell_row rfl _ _ gb157 27 #[.int .i64 t159, .int .i64 x4_1, .int .i64 t161, .slice Ao77 y173.length co77] (0, 0) _ rfl (by refine sqK ?_; refine zG (cs := #[.int .i64 t159, .int .i64 x4_1, .int .i64 t161, .slice none 0 0]) ?_ 3 _ rfl; refine sqK ?_; refine zG (cs := #[.int .i64 t159, .int .i64 x4_1, .int .i64 0, .slice none 0 0]) ?_ 2 _ rfl; refine sqK ?_; refine zG (cs := #[.int .i64 t159, .int .i64 0, .int .i64 0, .slice none 0 0]) ?_ 1 _ rfl; refine sqK ?_; refine zG (cs := #[.int .i64 0, .int .i64 0, .int .i64 0, .slice none 0 0]) ?_ 0 _ rfl; refine sqK ?_; refine zB ?_ NB157_165.out _; refine sqK ?_; exact BK157.out) Try.underlying27 rfl (by kernel_rfl)) rfl ?_
          exact ⟨_, by first | rfl | (simp [qR, qO] <;> rfl) | (simp only [← hji62]; first | rfl | (simp [qR, qO] <;> rfl)) | (simp [*, qR, qO] <;> rfl), by refine sqR ?_; exact Kd.zO (Kd.zP (p := ⟨gb157, 3, none⟩) (Kd.zP (p := ⟨gb157, 2, none⟩) (Kd.zP (p := ⟨gb157, 1, none⟩) (Kd.zP (p := ⟨gb157, 0, none⟩) (Kd.zP (p := ⟨gb165, 3, none⟩) (Kd.qt (Kd.qt HO175.out BK165.out (by decide)) BK157.out (by decide)) (fun _ hk => hk.1.2) (.slice Ao77 y173.length co77)) (fun _ hk => hk.2) (.int .i64 t159)) (fun _ hk => hk.2) (.int .i64 x4_1)) (fun _ hk => hk.2) (.int .i64 t161)) (fun _ hk => hk.2) (.slice Ao77 y173.length co77)) (fun _ hk => trivial), sqB⟩
         ·rw [if_neg c65] at H
          exact absurd H (by simp)
        ·rw [if_neg c64] at H
         exact absurd H (by simp)
       ·rw [if_neg c63] at H
        exact absurd H (by simp)
 ·replace c3 := Bool.eq_false_iff.mpr c3
  subst c3
  have H1 : (some (0, 0, 0, ([] : List Int))) = some (r1, r2, r3, r4) := by rw [if_neg (show ¬ (false = true) by decide)] at H; exact H
  clear H
  have H := H1
  clear H1
  simp only [Option.some.injEq, Prod.mk.injEq] at H
  obtain ⟨rfl, rfl, rfl, rfl⟩ := H
  go_enter Try.func32, Try.ntmps32
  go_wp2_with (first | ((with_reducible refine zx (N := 1) rfl ?_); refine zy ?hg (N := 1) ?hd (cs := #[.int .i64 a0_0, .int .i64 a0_1, .int .i64 a0_2, .slice A0_3 l0_3.length c0_3]) (t := 27) ?hr ?_; (case hd => rfl); (case hg => rfl); (case hr => exact sqG); intro gb156 hg w80 hbox hb; have n0_ := Aside0.mk (zj sqB hb); have n1_ := Aside0.mk (hbox); have n2_ := Aside0.mk ((sqS hg : w.heap.size ≤ gb156)); have n3_ := Aside0.mk ((sqS hg : w.heap.size ≤ gb156)); clear HB; have HB := n0_; have BK156 := n1_; have GW156 := n2_; have GE156 := n3_; clear n0_ n1_ n2_ n3_; clear hb hbox hg) | ((with_reducible refine zx (N := 2) rfl ?_); refine zy ?hg (N := 2) ?hd (cs := #[.int .i64 0, .int .i64 0, .int .i64 0, .slice none 0 0]) (t := 27) ?hr ?_; (case hd => rfl); (case hg => rfl); (case hr => exact sqG); intro gb157 hg w81 hbox hb; have n0_ := Aside0.mk (zq (g := gb156) (o := .cells #[.int .i64 a0_0, .int .i64 a0_1, .int .i64 a0_2, .slice A0_3 l0_3.length c0_3] 27 (0, 0)) (sqK BK156.out) hb); have n1_ := Aside0.mk (zj sqB hb); have n2_ := Aside0.mk (hbox); have n3_ := Aside0.mk ((sqS hg : w.heap.size ≤ gb157)); have n4_ := Aside0.mk ((sqS hg : w.heap.size ≤ gb157)); have n5_ := Aside0.mk ((by rw [hg]; exact Nat.ne_of_lt (zS (g := gb156) (o := .cells #[.int .i64 a0_0, .int .i64 a0_1, .int .i64 a0_2, .slice A0_3 l0_3.length c0_3] 27 (0, 0)) (sqK BK156.out)) : gb156 ≠ gb157)); have n6_ := Aside0.mk ((by rw [hg]; exact Nat.ne_of_gt (zS (g := gb156) (o := .cells #[.int .i64 a0_0, .int .i64 a0_1, .int .i64 a0_2, .slice A0_3 l0_3.length c0_3] 27 (0, 0)) (sqK BK156.out)) : gb157 ≠ gb156)); clear BK156; clear HB; have BK156 := n0_; have HB := n1_; have BK157 := n2_; have GW157 := n3_; have GE157 := n4_; have NB156_157 := n5_; have NB157_156 := n6_; clear n0_ n1_ n2_ n3_ n4_ n5_ n6_; clear hb hbox hg; have hnb82 := NB156_157.out; have hnc82 := NB157_156.out; have hcz83_0 : w81.cell? ⟨gb156, 0, none⟩ = some (.int .i64 a0_0) := (zb BK156.out 0).trans rfl; have hcz83_1 : w81.cell? ⟨gb156, 1, none⟩ = some (.int .i64 a0_1) := (zb BK156.out 1).trans rfl; have hcz83_2 : w81.cell? ⟨gb156, 2, none⟩ = some (.int .i64 a0_2) := (zb BK156.out 2).trans rfl; have hcz83_3 : w81.cell? ⟨gb156, 3, none⟩ = some (.slice A0_3 l0_3.length c0_3) := (zb BK156.out 3).trans rfl; have hfz83_0 := za BK156.out 0; have hfz83_1 := za BK156.out 1; have hfz83_2 := za BK156.out 2; have hfz83_3 := za BK156.out 3) | ((with_reducible refine zt (f := 37) rfl ?_); refine zN (some 8) rfl rfl Try.func37 (by kernel_rfl) rfl #[.agg #[.int .i64 a0_0, .int .i64 a0_1, .int .i64 a0_2, .slice A0_3 l0_3.length c0_3]] rfl sqM ?_; (with_reducible refine (zi.calls k a0_0 a0_1 a0_2 _ _ l0_3 false _ ?side1 ?side2 A2.out).mono ?_); (case side1 => exact sqC (Kd.z7 HR0_3.out HB.out)); (case side2 => exact HC0_3.out); rintro e w84 ⟨rfl, hb⟩; refine ⟨_, rfl, ?_⟩; have n0_ := Aside0.mk (zq (g := gb156) (o := .cells #[.int .i64 a0_0, .int .i64 a0_1, .int .i64 a0_2, .slice A0_3 l0_3.length c0_3] 27 (0, 0)) (sqK BK156.out) hb); have n1_ := Aside0.mk (zq (g := gb157) (o := .cells #[.int .i64 0, .int .i64 0, .int .i64 0, .slice none 0 0] 27 (0, 0)) (sqK BK157.out) hb); have n2_ := Aside0.mk (zj sqB hb); clear BK156; clear BK157; clear HB; have BK156 := n0_; have BK157 := n1_; have HB := n2_; clear n0_ n1_ n2_; (try clear hb); (try clear hb2); (try clear hk); (try clear hi); have hcz85_0 : w84.cell? ⟨gb157, 0, none⟩ = some (.int .i64 0) := (zb BK157.out 0).trans rfl; have hcz85_1 : w84.cell? ⟨gb157, 1, none⟩ = some (.int .i64 0) := (zb BK157.out 1).trans rfl; have hcz85_2 : w84.cell? ⟨gb157, 2, none⟩ = some (.int .i64 0) := (zb BK157.out 2).trans rfl; have hcz85_3 : w84.cell? ⟨gb157, 3, none⟩ = some (.slice none 0 0) := (zb BK157.out 3).trans rfl; have hfz85_0 := za BK157.out 0; have hfz85_1 := za BK157.out 1; have hfz85_2 := za BK157.out 2; have hfz85_3 := za BK157.out 3))
  refine bodyPost_ret (results_cell_row rfl _ _ gb157 27 #[.int .i64 0, .int .i64 0, .int .i64 0, .slice none 0 0] (0, 0) _ rfl (by refine sqK ?_; refine zG (cs := #[.int .i64 0, .int .i64 0, .int .i64 0, .slice none 0 0]) ?_ 3 _ rfl; refine sqK ?_; refine zG (cs := #[.int .i64 0, .int .i64 0, .int .i64 0, .slice none 0 0]) ?_ 2 _ rfl; refine sqK ?_; refine zG (cs := #[.int .i64 0, .int .i64 0, .int .i64 0, .slice none 0 0]) ?_ 1 _ rfl; refine sqK ?_; refine zG (cs := #[.int .i64 0, .int .i64 0, .int .i64 0, .slice none 0 0]) ?_ 0 _ rfl; refine sqK ?_; exact BK157.out) Try.underlying27 rfl (by kernel_rfl)) rfl ?_
  exact ⟨_, sqE, sqN, sqB⟩

end Go.Proofs.Ytopkfhnnapncgaa.F
end
section
namespace Go.Proofs.Ytopkfhnnapncgaa.Mt
def sdiff (a b : Nat) : Nat := a ^^^ (a &&& b)
theorem qI (a b i : Nat) : (sdiff a b).testBit i = (a.testBit i && !b.testBit i) := by
  simp [sdiff, Nat.testBit_xor, Nat.testBit_and]; cases a.testBit i <;> cases b.testBit i <;> rfl
def elems (s : Nat) : List Nat := (List.range 8).filter s.testBit
theorem J2 {s e : Nat} : e ∈ elems s ↔ e < 8 ∧ s.testBit e = true := by simp [elems]
end Go.Proofs.Ytopkfhnnapncgaa.Mt
end
section
namespace Go.Proofs.Ytopkfhnnapncgaa.Bits
open Go.Proofs.Ytopkfhnnapncgaa.Mt (sdiff qI)
open Go.RowKit Go.Proofs.YtopkfhnnapncgaaW.PrintWords Go.Proofs.YtopkfhnnapncgaaW.PrintLast Go.Proofs.YtopkfhnnapncgaaW.PrintMore

theorem qN {n : Int} (h0 : -9223372036854775808 ≤ n) (h1 : n < 9223372036854775808) : wrap64 n = n := by unfold wrap64; omega
theorem QR {n : Int} (h0 : -9223372036854775808 ≤ n) (h1 : n < 9223372036854775808) : IntKind.i64.wrap n = n := by rw [IntKind.wrap_i64]; omega
theorem QU {n : Int} (h0 : 0 ≤ n) (h1 : n < 18446744073709551616) : IntKind.u64.wrap n = n := by
  simp [IntKind.wrap, IntKind.bits, IntKind.signed]; omega
theorem ZU (a : Nat) (ha : a < 2 ^ 63) : (BitVec.ofInt 64 (a : Int)).toNat = a := by
  simp; omega
theorem Vc (a b : Nat) (ha : a < 2 ^ 63) (hb : b < 2 ^ 63) : Go.bits .and .i64 (a : Int) (b : Int) = ((a &&& b : Nat) : Int) := by
  have hab : a &&& b < 2 ^ 63 := Nat.and_lt_two_pow _ hb
  show IntKind.i64.wrap (((BitVec.ofInt 64 (a : Int) &&& BitVec.ofInt 64 (b : Int)).toNat : Nat) : Int) = _
  rw [BitVec.toNat_and, ZU a ha, ZU b hb]
  exact QR (by omega) (by omega)
theorem Js (e : Nat) (he : e < 63) : shl .i64 1 (e : Int) = ((2 ^ e : Nat) : Int) := by
  have h : 2 ^ e < 2 ^ 63 := Nat.pow_lt_pow_right (by decide) he
  unfold shl
  rw [Nat.min_eq_left (by simp [IntKind.bits]; omega), Int.one_mul, Int.toNat_natCast]
  rw [show (2 : Int) ^ e = ((2 ^ e : Nat) : Int) by simp]
  generalize 2 ^ e = x at h ⊢
  exact QR (by omega) (by omega)
theorem Ye (a e : Nat) (he : e ≤ 64) : shr .i64 (a : Int) (e : Int) = ((a >>> e : Nat) : Int) := by
  unfold shr
  rw [Nat.min_eq_left (by simp [IntKind.bits]; omega), Int.toNat_natCast, Nat.shiftRight_eq_div_pow]
  simp
theorem Jz (a e : Nat) (ha : a < 2 ^ 63) (he : e ≤ 64) : (Go.bits .and .i64 (shr .i64 (a : Int) (e : Int)) 1 == 1) = a.testBit e := by
  have h1 : a >>> e < 2 ^ 63 := Nat.lt_of_le_of_lt (by rw [Nat.shiftRight_eq_div_pow]; exact Nat.div_le_self _ _) ha
  rw [Ye a e he, show (1 : Int) = ((1 : Nat) : Int) from rfl, Vc _ _ h1 (by decide)]
  simp only [Nat.testBit, Nat.and_comm 1]
  rcases Nat.mod_two_eq_zero_or_one (a >>> e) with h | h <;> simp [Nat.and_one_is_mod, h] <;> rfl

end Go.Proofs.Ytopkfhnnapncgaa.Bits
end
section
namespace Go.Proofs.Ytopkfhnnapncgaa.L
open Go.RowKit Go.Proofs.YtopkfhnnapncgaaW.PrintWords Go.Proofs.YtopkfhnnapncgaaW.PrintLast Go.Proofs.YtopkfhnnapncgaaW.PrintMore
open Go.Proofs.Ytopkfhnnapncgaa.Bits

theorem Ev.succ {α : Type} {g : Nat → Option α} {r : α} (h : Ev (fun k => g (k + 1)) r) : Ev g r := Ev.step (fun _ => rfl) h
theorem Ev.some {α : Type} {r s : α} (h : r = s) : Ev (fun _ => Option.some r) s := h ▸ Ev.now r
theorem zY {i : Nat} (h : i < 9223372036854775807) : wrap64 ((i : Int) + 1) = ((i + 1 : Nat) : Int) := qN (by omega) (by omega)

/-- A loop that asks of all places, and says no at the first that fails. -/
theorem QP (L : Nat → Int → Option Bool) (n : Nat) (p : Nat → Bool) (hend : ∀ k, L (k + 1) (n : Int) = some true)
    (hstep : ∀ i, i < n → ∀ k, L (k + 1) (i : Int) = if p i = true then L k ((i + 1 : Nat) : Int) else some false) :
    ∀ d i, i + d = n → Ev (fun k => L k (i : Int)) ((List.range' i d).all p)
  | 0, i, hd => by
    obtain rfl : i = n := by omega
    refine Ev.succ ?_
    simp only [hend]; exact Ev.now _
  | d + 1, i, hd => by
    refine Ev.succ ?_
    rw [List.range'_succ, List.all_cons]
    simp only [hstep i (by omega)]
    cases hp : p i
    · simp only [Bool.false_eq_true, if_false, Bool.false_and]; exact Ev.now _
    · simp only [if_true, Bool.true_and]; exact QP L n p hend hstep d (i + 1) (by omega)
theorem yZ (L : Nat → Int → Option Bool) (n : Nat) (p : Nat → Bool) (hend : ∀ k, L (k + 1) (n : Int) = some true)
    (hstep : ∀ i, i < n → ∀ k, L (k + 1) (i : Int) = if p i = true then L k ((i + 1 : Nat) : Int) else some false) :
    Ev (fun k => L k 0) ((List.range n).all p) := by
  rw [List.range_eq_range']; exact QP L n p hend hstep n 0 (by omega)
/-- A loop that gathers: at each place the state takes a step; an invariant goes along. -/
theorem y3 {σ ρ : Type} (L : Nat → σ → Int → Option ρ) (n : Nat) (step : σ → Nat → σ) (inv : Nat → σ → Prop) (fin : σ → ρ)
    (hend : ∀ s, inv n s → Ev (fun k => L (k + 1) s (n : Int)) (fin s))
    (hstep : ∀ i s, i < n → inv i s → inv (i + 1) (step s i) ∧ ∀ r, Ev (fun k => L k (step s i) ((i + 1 : Nat) : Int)) r → Ev (fun k => L (k + 1) s (i : Int)) r) :
    ∀ d i s, i + d = n → inv i s → Ev (fun k => L k s (i : Int)) (fin ((List.range' i d).foldl step s))
  | 0, i, s, hd, hi => by
    obtain rfl : i = n := by omega
    exact Ev.succ (hend s hi)
  | d + 1, i, s, hd, hi => by
    refine Ev.succ ?_
    obtain ⟨h1, h2⟩ := hstep i s (by omega) hi
    exact h2 _ (y3 L n step inv fin hend hstep d (i + 1) (step s i) (by omega) h1)
theorem Zz {σ ρ : Type} (L : Nat → σ → Int → Option ρ) (n : Nat) (step : σ → Nat → σ) (inv : Nat → σ → Prop) (fin : σ → ρ)
    (hend : ∀ s, inv n s → Ev (fun k => L (k + 1) s (n : Int)) (fin s))
    (hstep : ∀ i s, i < n → inv i s → inv (i + 1) (step s i) ∧ ∀ r, Ev (fun k => L k (step s i) ((i + 1 : Nat) : Int)) r → Ev (fun k => L (k + 1) s (i : Int)) r) (s : σ) (h : inv 0 s) :
    Ev (fun k => L k s 0) (fin ((List.range n).foldl step s)) := by
  rw [List.range_eq_range']; exact y3 L n step inv fin hend hstep n 0 s (by omega) h

/-- A loop that gathers, and what stands behind it. -/
theorem jj {σ ρ : Type} (L : Nat → σ → Int → Option ρ) (n : Nat) (step : σ → Nat → σ) (inv : Nat → σ → Prop)
    (hstep : ∀ i s, i < n → inv i s → inv (i + 1) (step s i) ∧ ∀ r, Ev (fun k => L k (step s i) ((i + 1 : Nat) : Int)) r → Ev (fun k => L (k + 1) s (i : Int)) r) (s : σ) (h : inv 0 s) :
    inv n ((List.range n).foldl step s) ∧ ∀ r, Ev (fun k => L k ((List.range n).foldl step s) (n : Int)) r → Ev (fun k => L k s 0) r := by
  have key : ∀ d i s, i + d = n → inv i s → inv n ((List.range' i d).foldl step s) ∧ ∀ r, Ev (fun k => L k ((List.range' i d).foldl step s) (n : Int)) r → Ev (fun k => L k s (i : Int)) r := by
    intro d
    induction d with
    | zero => intro i s hd hi; obtain rfl : i = n := by omega
              exact ⟨hi, fun r h => h⟩
    | succ d ih =>
      intro i s hd hi
      obtain ⟨h1, h2⟩ := hstep i s (by omega) hi
      obtain ⟨h3, h4⟩ := ih (i + 1) (step s i) (by omega) h1
      rw [List.range'_succ, List.foldl_cons]
      exact ⟨h3, fun r h => Ev.succ (h2 r (h4 r h))⟩
  rw [List.range_eq_range']
  exact key n 0 s (by omega) h
theorem jb (l : List Int) (j : Nat) : rd l (j : Int) = l.getD j 0 := by simp [rd]
theorem ym {α : Type} (l : List α) (d : α) (p : α → Bool) : (List.range l.length).all (fun i => p (l.getD i d)) = l.all p := by
  rw [Bool.eq_iff_iff, List.all_eq_true, List.all_eq_true]
  constructor
  · intro h x hx
    obtain ⟨i, hi, rfl⟩ := List.getElem_of_mem hx
    have := h i (by simpa using hi)
    simpa [List.getElem?_eq_getElem hi] using this
  · intro h i hi
    have hi : i < l.length := by simpa using hi
    have := h l[i] (List.getElem_mem hi)
    simpa [List.getElem?_eq_getElem hi] using this
end Go.Proofs.Ytopkfhnnapncgaa.L
end
section
namespace Go.Proofs.Ytopkfhnnapncgaa.L
open Go.RowKit Go.Proofs.Ytopkfhnnapncgaa.F Go.Proofs.YtopkfhnnapncgaaW.PrintWords Go.Proofs.YtopkfhnnapncgaaW.PrintLast Go.Proofs.YtopkfhnnapncgaaW.PrintMore
open Go.Proofs.Ytopkfhnnapncgaa.Bits

theorem Qj (l l' : List Int) (h : l.length = l'.length) : (List.range l.length).all (fun i => decide (l.getD i 0 = l'.getD i 0)) = decide (l = l') := by
  rw [Bool.eq_iff_iff, List.all_eq_true, decide_eq_true_iff]
  constructor
  · intro hh
    apply List.ext_getElem h
    intro i h1 h2
    have := hh i (by simpa using h1)
    simpa [List.getElem?_eq_getElem h1, List.getElem?_eq_getElem h2] using this
  · rintro rfl i _
    simp

theorem Y7 (l l' : List Int) (h : l.length ≤ 17592186044416) : Ev (fun k => qb.f k l l') (decide (l = l')) := by
  unfold qb.f
  by_cases e : l.length = l'.length
  · simp only [show ((l.length : Int) = (l'.length : Int)) by omega, if_true]
    rw [← Qj l l' e]
    refine yZ _ _ _ (fun k => by simp only [qb.l0, show ¬ ((l.length : Int) < (l.length : Int)) by omega, if_false]) ?_
    intro i hi k
    simp only [qb.l0, show ((i : Int) < (l.length : Int)) by omega, show ((i : Int) < (l'.length : Int)) by omega, show (0 : Int) ≤ (i : Int) by omega, if_true, jb, zY (show i < 9223372036854775807 by omega), decide_eq_true_eq]
  · simp only [show ¬ ((l.length : Int) = (l'.length : Int)) by omega, if_false]
    rw [show decide (l = l') = false by simp; rintro rfl; exact e rfl]
    exact Ev.now _

theorem YK (l : List Int) (n : Int) (h : l.length ≤ 17592186044416) (h0 : 0 ≤ n) (h1 : n ≤ 1048576) : qV.f l n = some (if n < l.length then -1 else n - l.length) := by
  unfold qV.f
  have hw : wrap64 (n - (l.length : Int)) = n - (l.length : Int) := qN (by omega) (by omega)
  rw [hw]
  split
  · rw [if_pos (by omega)]
  · rw [if_neg (by omega)]
theorem Z5 (l : List Int) : ∀ n, n ≤ l.length → (List.range n).foldl (fun a i => a.set i (l.getD i 0)) (List.replicate l.length 0) = l.take n ++ List.replicate (l.length - n) 0
  | 0, _ => by simp
  | n + 1, h => by
    rw [List.range_succ, List.foldl_append, Z5 l n (by omega)]
    simp only [List.foldl_cons, List.foldl_nil]
    obtain ⟨m, hm⟩ : ∃ m, l.length - n = m + 1 := ⟨l.length - n - 1, by omega⟩
    rw [hm, List.replicate_succ, List.set_append_right _ _ (by simp; omega)]
    have : n - (List.take n l).length = 0 := by simp; omega
    rw [this, List.set_cons_zero, show l.length - (n + 1) = m by omega]
    have hg : l.getD n 0 = l[n] := by simp [List.getElem?_eq_getElem (show n < l.length by omega)]
    rw [List.take_succ_eq_append_getElem (by omega), List.append_assoc, List.singleton_append, hg]

theorem YS (l : List Int) (h : l.length ≤ 17592186044416) : Ev (fun k => zV.f k l) l := by
  unfold zV.f
  simp only [show (0 : Int) ≤ (l.length : Int) by omega, Int.toNat_natCast, show l.length ≤ 35184372088832 by omega, if_true]
  have key := Zz (fun k s i => zV.l0 k l s i) l.length (fun a i => a.set i (l.getD i 0)) (fun _ s => s.length = l.length) id
    (fun s hs => by
      simp only [zV.l0, show ¬ ((l.length : Int) < (l.length : Int)) by omega, if_false]
      exact Ev.now _)
    (fun i s hi hs => ⟨by simp [hs], fun r hr => by
      simp only [zV.l0, show ((i : Int) < (l.length : Int)) by omega, show ((i : Int) < (s.length : Int)) by omega, show (0 : Int) ≤ (i : Int) by omega, if_true, Int.toNat_natCast, jb, zY (show i < 9223372036854775807 by omega)]
      exact hr⟩) (List.replicate l.length 0) (by simp)
  rw [Z5 l l.length (Nat.le_refl _)] at key
  simpa using key
end Go.Proofs.Ytopkfhnnapncgaa.L
end
section
namespace Go.Proofs.Ytopkfhnnapncgaa.L
open Go.RowKit Go.Proofs.YtopkfhnnapncgaaW.PrintWords Go.Proofs.YtopkfhnnapncgaaW.PrintLast Go.Proofs.YtopkfhnnapncgaaW.PrintMore
open Go.Proofs.Ytopkfhnnapncgaa.Bits
set_option linter.unusedSimpArgs false
set_option linter.unusedVariables false
abbrev Tab := Nat → Nat → Int
def zT (M : Tab) (R C : Nat) : List Int := (List.range (R * C)).map fun k => M (k / C) (k % C)
def qA (M : Tab) (C i : Nat) : List Int := (List.range C).map (M i)
def zR (M : Tab) (R C : Nat) : List (List Int) := (List.range R).map (qA M C)
def jB (l : List Int) (C : Nat) : Tab := fun i j => l.getD (i * C + j) 0
def upd (M : Tab) (i j : Nat) (v : Int) : Tab := fun a b => if a = i ∧ b = j then v else M a b
theorem yJ {i j C : Nat} (hj : j < C) : (i * C + j) / C = i := by
  rw [Nat.mul_comm, Nat.mul_add_div (by omega), Nat.div_eq_of_lt hj, Nat.add_zero]
theorem yA {i j C : Nat} (hj : j < C) : (i * C + j) % C = j := by
  rw [Nat.mul_comm, Nat.mul_add_mod, Nat.mod_eq_of_lt hj]
theorem vo {R C i j : Nat} (hi : i < R) (hj : j < C) : i * C + j < R * C := by
  have := Nat.mul_le_mul_right C (show i + 1 ≤ R by omega)
  rw [Nat.succ_mul] at this; omega
theorem qv (M : Tab) (R C : Nat) : (zT M R C).length = R * C := by simp [zT]
theorem qK (M : Tab) (C i : Nat) : (qA M C i).length = C := by simp [qA]
theorem qh (M : Tab) (R C : Nat) : (zR M R C).length = R := by simp [zR]
theorem je (M : Tab) {R C i j : Nat} (hi : i < R) (hj : j < C) : (zT M R C).getD (i * C + j) 0 = M i j := by
  have h := vo hi hj
  simp [zT, List.getD_eq_getElem?_getD, h, yJ hj, yA hj]
theorem j8 (M : Tab) {C i j : Nat} (hj : j < C) : (qA M C i).getD j 0 = M i j := by
  simp [qA, List.getD_eq_getElem?_getD, hj]
theorem vR (M : Tab) {R C i : Nat} (hi : i < R) : (zR M R C).getD i [] = qA M C i := by
  simp [zR, List.getD_eq_getElem?_getD, hi]
theorem ZZ {R C k : Nat} (h : k < R * C) : 0 < C := by
  rcases Nat.eq_zero_or_pos C with rfl | h'
  · simp at h
  · exact h'
theorem JX {R C k : Nat} (h : k < R * C) : k / C < R := (Nat.div_lt_iff_lt_mul (ZZ h)).2 h
theorem Ql {M N : Tab} {R C : Nat} (h : ∀ i j, i < R → j < C → M i j = N i j) : zT M R C = zT N R C := by
  refine List.map_congr_left fun k hk => h _ _ (JX (List.mem_range.1 hk)) (Nat.mod_lt _ (ZZ (List.mem_range.1 hk)))
theorem Za {M N : Tab} {C i : Nat} (h : ∀ j, j < C → M i j = N i j) : qA M C i = qA N C i := List.map_congr_left fun j hj => h j (List.mem_range.1 hj)
theorem Qs {M N : Tab} {R C : Nat} (h : ∀ i j, i < R → j < C → M i j = N i j) : zR M R C = zR N R C := List.map_congr_left fun i hi => Za fun j hj => h i j (List.mem_range.1 hi) hj
theorem J0 {l : List Int} {R C : Nat} (hl : l.length = R * C) : zT (jB l C) R C = l := by
  refine List.ext_getElem (by rw [qv, hl]) fun k h1 h2 => ?_
  simp only [zT, jB, List.getElem_map, List.getElem_range]
  rw [Nat.mul_comm, Nat.div_add_mod]
  simp [List.getD_eq_getElem?_getD, h2]
theorem yr (M : Tab) {R C i j : Nat} (hi : i < R) (hj : j < C) (v : Int) : (zT M R C).set (i * C + j) v = zT (upd M i j v) R C := by
  refine List.ext_getElem (by simp [zT]) fun k h1 h2 => ?_
  rw [List.getElem_set]
  simp only [zT, upd, List.getElem_map, List.getElem_range]
  by_cases c : i * C + j = k
  · subst c
    rw [if_pos rfl, if_pos ⟨yJ hj, yA hj⟩]
  · rw [if_neg c, if_neg]
    rintro ⟨rfl, rfl⟩
    exact c (by rw [Nat.mul_comm]; exact Nat.div_add_mod k C)
theorem JG (M : Tab) {C i j : Nat} (hj : j < C) (v : Int) : (qA M C i).set j v = qA (upd M i j v) C i := by
  refine List.ext_getElem (by simp [qA]) fun k h1 h2 => ?_
  rw [List.getElem_set]
  simp only [qA, upd, List.getElem_map, List.getElem_range]
  by_cases c : j = k
  · subst c; simp
  · simp [c, show ¬ k = j from fun h => c h.symm]
theorem Q3 (M N : Tab) {R C i : Nat} (hi : i < R) (h : ∀ a b, a ≠ i → N a b = M a b) : (zR M R C).set i (qA N C i) = zR N R C := by
  refine List.ext_getElem (by simp [zR]) fun k h1 h2 => ?_
  rw [List.getElem_set]
  simp only [zR, List.getElem_map, List.getElem_range]
  by_cases c : i = k
  · subst c; rw [if_pos rfl]
  · rw [if_neg c]; exact Za fun j _ => (h k j (Ne.symm c)).symm
theorem Zt (M : Tab) {R C i j : Nat} (hi : i < R) (hj : j < C) (v : Int) : (zR M R C).set i ((qA M C i).set j v) = zR (upd M i j v) R C := by
  rw [JG M hj]
  exact Q3 _ _ hi fun a b h => by unfold upd; rw [if_neg (fun c => h c.1)]
theorem Z2 (M : Tab) (R C : Nat) : (zR M R C).flatten = zT M R C := by
  induction R with
  | zero => simp [zR, zT]
  | succ R ih =>
    have h1 : zR M (R + 1) C = zR M R C ++ [qA M C R] := by simp [zR, List.range_succ]
    rw [h1, List.flatten_append, ih, List.flatten_singleton]
    refine List.ext_getElem (by simp [zT, qA, Nat.succ_mul]) fun k h2 h3 => ?_
    rw [List.getElem_append]
    simp only [qv]
    split
    · simp [zT]
    · rename_i hk
      simp only [qv, Nat.succ_mul] at h3
      have hm : k - R * C < C := by omega
      obtain ⟨m, rfl⟩ : ∃ m, k = R * C + m := ⟨k - R * C, by omega⟩
      simp only [qA, zT, List.getElem_map, List.getElem_range, Nat.add_sub_cancel_left]
      rw [Nat.add_sub_cancel_left] at hm
      rw [yJ hm, yA hm]
theorem JO (M : Tab) {R C t : Nat} (h : t ≤ R) : (zR M R C).take t = zR M t C := by
  rw [zR, ← List.map_take, List.take_range, Nat.min_eq_left h]; rfl
theorem J1 (M : Tab) {R C t : Nat} (h : t ≤ R) : (zT M R C).take (t * C) = zT M t C := by
  rw [zT, ← List.map_take, List.take_range, Nat.min_eq_left (Nat.mul_le_mul_right _ h)]; rfl
def qJ (F : (Nat → Int) → Nat → Int) (M : Tab) (j : Nat) : Tab := fun i c => if c = j then F (fun i => M i j) i else M i c
def zQ (F : (Nat → Int) → Nat → Int) (M : Tab) : Tab := fun i c => F (fun i => M i c) i
theorem Jx (F : (Nat → Int) → Nat → Int) (M : Tab) (n : Nat) : (List.range n).foldl (qJ F) M = fun i c => if c < n then F (fun i => M i c) i else M i c := by
  induction n with
  | zero => funext i c; simp
  | succ n ih =>
    rw [List.range_succ, List.foldl_append, List.foldl_cons, List.foldl_nil, ih]
    funext i c
    unfold qJ
    by_cases h1 : c = n
    · subst h1
      simp
    · by_cases h2 : c < n
      · simp [h1, h2, Nat.lt_succ_of_lt h2]
      · simp [h1, h2, show ¬ c < n + 1 by omega]
theorem yW (F : (Nat → Int) → Nat → Int) (M : Tab) (R C : Nat) : zT ((List.range C).foldl (qJ F) M) R C = zT (zQ F M) R C := by
  rw [Jx]; exact Ql fun i j _ hj => by simp [hj, zQ]
theorem yI (F : (Nat → Int) → Nat → Int) (M : Tab) (R C : Nat) : zR ((List.range C).foldl (qJ F) M) R C = zR (zQ F M) R C := by
  rw [Jx]; exact Qs fun i j _ hj => by simp [hj, zQ]
def qF (a b : Nat) (f : Nat → Int) (i : Nat) : Int := if i = b then f a else if i = a then f b else f i
def jV (p : Int) (r : Nat) (x : Int) (f : Nat → Int) (i : Nat) : Int := if i = r then Int.tmod (f r * x) p else f i
def Ze (p : Int) (r i0 : Nat) (g : Int) (f : Nat → Int) (i : Nat) : Int := if i = i0 then Int.tmod (f i0 + (p - g) * f r) p else f i
def qD (p : Int) (r col : Nat) (M : Tab) (i : Nat) : Tab := if i = r then M else zQ (Ze p r i (M i col)) M
def vJ (p : Int) (r col R : Nat) (M : Tab) : Tab := (List.range R).foldl (qD p r col) M
/-- The inverse of a number in a ZX field. -/
def jy (p a : Int) : Int := ((a.toNat ^ (p.toNat - 2) % p.toNat : Nat) : Int)
def jZ (p : Int) (R t col : Nat) (M : Tab) : Tab := vJ p t col R (zQ (jV p t (jy p (M t col))) M)
/-- Where a column has a number that is not 0, from row t on. -/
def zH (M : Tab) (R t col : Nat) : Nat := ((List.range' t (R - t)).find? fun i => decide (M i col ≠ 0)).getD R
structure Red where
  t : Nat
  M : Tab
  ps : List Int
def z8 (p : Int) (R : Nat) (s : Red) (j : Nat) : Red :=
  if zH s.M R s.t j < R then ⟨s.t + 1, jZ p R s.t j (zQ (qF s.t (zH s.M R s.t j)) s.M), s.ps ++ [(j : Int)]⟩ else s
def vS (p : Int) (R C : Nat) (M : Tab) : Red := (List.range C).foldl (z8 p R) ⟨0, M, []⟩
def InF (p : Int) (R C : Nat) (M : Tab) : Prop := ∀ i j, i < R → j < C → 0 ≤ M i j ∧ M i j < p
theorem Qf {x p : Int} (h : 0 ≤ x) (hp : 2 ≤ p) : 0 ≤ Int.tmod x p ∧ Int.tmod x p < p := by
  rw [Int.tmod_eq_emod_of_nonneg h]; exact ⟨Int.emod_nonneg _ (by omega), Int.emod_lt_of_pos _ (by omega)⟩
section
variable {p : Int} {R C : Nat} {M : Tab}
theorem InF.swap (h : InF p R C M) {a b : Nat} (ha : a < R) (hb : b < R) : InF p R C (zQ (qF a b) M) := fun i j hi hj => by
  unfold zQ qF
  split
  · exact h a j ha hj
  · split
    · exact h b j hb hj
    · exact h i j hi hj
theorem InF.scale (h : InF p R C M) (hp : 2 ≤ p) {r : Nat} (hr : r < R) {x : Int} (hx : 0 ≤ x) : InF p R C (zQ (jV p r x) M) := fun i j hi hj => by
  unfold zQ jV
  split
  · exact Qf (Int.mul_nonneg (h r j hr hj).1 hx) hp
  · exact h i j hi hj
theorem InF.elim (h : InF p R C M) (hp : 2 ≤ p) {r i0 : Nat} (hr : r < R) (hi0 : i0 < R) {g : Int} (hg : 0 ≤ g ∧ g < p) : InF p R C (zQ (Ze p r i0 g) M) := fun i j hi hj => by
  unfold zQ Ze
  split
  · refine Qf ?_ hp
    have h1 := (h i0 j hi0 hj).1
    have h2 := Int.mul_nonneg (show 0 ≤ p - g by omega) (h r j hr hj).1
    show 0 ≤ M i0 j + (p - g) * M r j
    exact Int.add_nonneg h1 h2
  · exact h i j hi hj
theorem InF.qD (h : InF p R C M) (hp : 2 ≤ p) {r col i : Nat} (hr : r < R) (hc : col < C) (hi : i < R) : InF p R C (qD p r col M i) := by
  unfold L.qD
  split
  · exact h
  · exact h.elim hp hr hi (h i col hi hc)
theorem InF.vJ (hp : 2 ≤ p) {r col : Nat} (hr : r < R) (hc : col < C) : ∀ n, n ≤ R → ∀ {M : Tab}, InF p R C M → InF p R C ((List.range n).foldl (L.qD p r col) M)
  | 0, _, _, h => h
  | n + 1, hn, M, h => by
    rw [List.range_succ, List.foldl_append]
    exact (InF.vJ hp hr hc n (by omega) h).qD hp hr hc (by omega)
theorem y6 (p a : Int) : 0 ≤ jy p a := Int.natCast_nonneg _
theorem V0 {p : Int} (hp : 2 ≤ p) (a : Int) : jy p a < p := by
  have h : a.toNat ^ (p.toNat - 2) % p.toNat < p.toNat := Nat.mod_lt _ (by omega)
  unfold jy
  omega
theorem InF.pivot (h : InF p R C M) (hp : 2 ≤ p) {r col : Nat} (hr : r < R) (hc : col < C) : InF p R C (jZ p R r col M) := by
  unfold jZ L.vJ
  exact InF.vJ hp hr hc R (Nat.le_refl _) (h.scale hp hr (y6 _ _))
end
theorem yq {M : Tab} {R a col : Nat} (h : a < R) : zH M R a col = if M a col = 0 then zH M R (a + 1) col else a := by
  unfold zH
  obtain ⟨m, hm⟩ : ∃ m, R - a = m + 1 := ⟨R - a - 1, by omega⟩
  rw [hm, List.range'_succ, List.find?_cons, show R - (a + 1) = m by omega]
  by_cases c : M a col = 0
  · simp [c]
  · simp [c]
theorem vT (M : Tab) (R col : Nat) : zH M R R col = R := by simp [zH]
theorem q4 (M : Tab) (R col : Nat) : ∀ d a, a + d = R → a ≤ zH M R a col ∧ zH M R a col ≤ R ∧ (zH M R a col < R → M (zH M R a col) col ≠ 0) ∧ ∀ i, a ≤ i → i < zH M R a col → M i col = 0
  | 0, a, h => by
    obtain rfl : a = R := by omega
    rw [vT]; exact ⟨Nat.le_refl _, Nat.le_refl _, fun h => absurd h (by omega), fun i h1 h2 => absurd h1 (by omega)⟩
  | d + 1, a, h => by
    rw [yq (show a < R by omega)]
    by_cases c : M a col = 0
    · rw [if_pos c]
      obtain ⟨h1, h2, h3, h4⟩ := q4 M R col d (a + 1) (by omega)
      exact ⟨by omega, h2, h3, fun i h5 h6 => by
        rcases Nat.eq_or_lt_of_le h5 with rfl | h7
        · exact c
        · exact h4 i h7 h6⟩
    · rw [if_neg c]
      exact ⟨Nat.le_refl _, by omega, fun _ => c, fun i h5 h6 => absurd h5 (by omega)⟩
theorem QT (M : Tab) {R C i : Nat} (hi : i < R) : ((zT M R C).take ((i + 1) * C)).drop (i * C) = qA M C i := by
  rw [J1 M (show i + 1 ≤ R by omega)]
  refine List.ext_getElem (by simp [zT, qA, Nat.succ_mul]) fun k h1 h2 => ?_
  rw [qK] at h2
  simp only [List.getElem_drop, zT, qA, List.getElem_map, List.getElem_range, yJ h2, yA h2]
theorem y2 (M : Tab) (C i : Nat) : zT M i C ++ qA M C i = zT M (i + 1) C := by
  rw [← Z2, ← Z2, show zR M (i + 1) C = zR M i C ++ [qA M C i] by simp [zR, List.range_succ], List.flatten_append, List.flatten_singleton]
theorem JQ (M : Tab) (C i : Nat) : zR M i C ++ [qA M C i] = zR M (i + 1) C := by simp [zR, List.range_succ]
theorem JT (M : Tab) {R C a b : Nat} (ha : a < R) (hb : b < R) : ((zR M R C).set a (qA M C b)).set b (qA M C a) = zR (zQ (qF a b) M) R C := by
  refine List.ext_getElem (by simp [zR]) fun k h1 h2 => ?_
  rw [List.getElem_set, List.getElem_set]
  simp only [zR, List.getElem_map, List.getElem_range]
  by_cases c1 : b = k
  · subst c1; rw [if_pos rfl]; unfold qA zQ qF; simp
  · rw [if_neg c1]
    by_cases c2 : a = k
    · subst c2; rw [if_pos rfl]; unfold qA zQ qF; simp [Ne.symm c1]
    · rw [if_neg c2]; unfold qA zQ qF; simp [Ne.symm c1, Ne.symm c2]
structure Z9 (p : Int) (R C : Nat) (s : Red) : Prop where
  t_le : s.t ≤ R
  inF : InF p R C s.M
  len : s.ps.length = s.t
theorem Z9.step {p : Int} {R C : Nat} {s : Red} (h : Z9 p R C s) (hp : 2 ≤ p) {j : Nat} (hj : j < C) : Z9 p R C (z8 p R s j) := by
  unfold z8
  split
  · rename_i hlt
    obtain ⟨h1, h2, h3, h4⟩ := q4 s.M R j (R - s.t) s.t (by have := h.t_le; omega)
    exact ⟨by show s.t + 1 ≤ R; omega, (h.inF.swap (by omega) hlt).pivot hp (by omega) hj, by show (s.ps ++ [(j : Int)]).length = s.t + 1; rw [List.length_append, h.len]; rfl⟩
  · exact h
end Go.Proofs.Ytopkfhnnapncgaa.L
end
section
namespace Go.Proofs.Ytopkfhnnapncgaa.L
open Go.RowKit Go.Proofs.Ytopkfhnnapncgaa.F Go.Proofs.YtopkfhnnapncgaaW.PrintWords Go.Proofs.YtopkfhnnapncgaaW.PrintLast Go.Proofs.YtopkfhnnapncgaaW.PrintMore
open Go.Proofs.Ytopkfhnnapncgaa.Bits
open Go.Proofs.Ytopkfhnnapncgaa.Mt (sdiff qI elems J2)

def ints (l : List Nat) : List Int := l.map fun x : Nat => (x : Int)
theorem VT (l : List Nat) (j : Nat) (h : j < l.length) : rd (ints l) (j : Int) = ((l[j]'h : Nat) : Int) := by
  simp [rd, ints, List.getElem?_eq_getElem h]
theorem yM (s : Nat) : (elems s).length ≤ 8 := by
  have := List.length_filter_le s.testBit (List.range 8); simpa [elems] using this
/-- A number that is a set of eight elements. -/
def isAny (s : Int) : Bool := decide (0 ≤ s ∧ s < 256)

theorem Yf (s : Int) : qL.f s = some (isAny s) := by
  unfold qL.f isAny
  split <;> simp <;> omega

theorem YQ (x a b : Int) : zu.f x a b = some (decide (a ≤ x ∧ x ≤ b)) := by
  unfold zu.f
  split <;> simp <;> omega

theorem Yg (n s : Int) : qM.f n s = some (decide (0 ≤ n ∧ n ≤ 8 ∧ 0 ≤ s ∧ s < 2 ^ n.toNat)) := by
  unfold qM.f
  simp only [YQ, Option.bind_some, decide_eq_true_eq]
  split
  · rename_i h
    obtain ⟨m, rfl⟩ := Int.eq_ofNat_of_zero_le h.1
    have hm : m ≤ 8 := by omega
    have hp : (2 : Nat) ^ m ≤ 2 ^ 8 := Nat.pow_le_pow_right (by decide) hm
    rw [QU (by omega) (by omega), Js m (by omega), if_pos (by omega)]
    rw [qN (by generalize 2 ^ m = x at hp ⊢; omega) (by generalize 2 ^ m = x at hp ⊢; omega)]
    simp only [Int.toNat_natCast, Option.some.injEq, decide_eq_decide]
    have : (2 : Int) ^ m = ((2 ^ m : Nat) : Int) := by simp
    rw [this]
    generalize 2 ^ m = x at hp ⊢
    omega
  · simp; omega

theorem QQ (n : Int) : zJ.f n = some (decide (0 ≤ n ∧ n ≤ 8)) := by
  unfold zJ.f
  split <;> simp <;> omega
theorem VU (n s : Int) : qX.f n s = some (decide (0 ≤ n ∧ n ≤ 8 ∧ 0 ≤ s ∧ s < 2 ^ n.toNat)) := by
  unfold qX.f
  rw [QQ]
  simp only [Option.bind_some, decide_eq_true_eq]
  by_cases h : 0 ≤ n ∧ n ≤ 8
  · rw [if_pos h]
    by_cases hs : s ≥ 0
    · rw [if_pos hs, if_pos h.1]
      obtain ⟨m, rfl⟩ := Int.eq_ofNat_of_zero_le h.1
      rw [Js m (by omega)]
      simp only [Int.toNat_natCast, Option.some.injEq, decide_eq_decide]
      have : (2 : Int) ^ m = ((2 ^ m : Nat) : Int) := by simp
      rw [this]
      generalize 2 ^ m = x
      omega
    · rw [if_neg hs]; simp; omega
  · rw [if_neg h]; simp; omega
theorem Qp (s e : Int) : qB.f s e = some (isAny s && decide (0 ≤ e ∧ e < 8) && s.toNat.testBit e.toNat) := by
  unfold qB.f
  rw [Yf]
  simp only [Option.bind_some]
  cases hs : isAny s
  · simp
  · rw [if_pos rfl]
    have hs' : 0 ≤ s ∧ s < 256 := by simpa [isAny] using hs
    by_cases h0 : e ≥ 0
    · rw [if_pos h0]
      by_cases h8 : e < 8
      · obtain ⟨a, rfl⟩ := Int.eq_ofNat_of_zero_le hs'.1
        obtain ⟨b, rfl⟩ := Int.eq_ofNat_of_zero_le h0
        rw [if_pos h8, if_pos h0, Jz _ _ (by omega) (by omega)]
        simp; omega
      · rw [if_neg h8]; simp; omega
    · rw [if_neg h0]; simp; omega

/-- The elements of a number: none where it is no set. -/
def vQ (s : Int) : List Nat := if isAny s then elems s.toNat else []

theorem yl (s : Int) : (vQ s).length ≤ 8 := by
  unfold vQ; split
  · exact yM _
  · simp

theorem yw (s : Int) (L : Nat → List Int → Int → Option (List Int))
    (hL : ∀ k (acc : List Int) (i : Nat), L (k + 1) acc i = if (i : Int) < 8 then (if (isAny s && decide (0 ≤ (i : Int) ∧ (i : Int) < 8) && s.toNat.testBit (i : Int).toNat) = true then (if acc.length < 17592186044416 then L k (acc ++ [(i : Int)]) (wrap64 ((i : Int) + 1)) else none) else L k acc (wrap64 ((i : Int) + 1))) else some acc) :
    ∀ (d i : Nat) (acc : List Int), i + d = 8 → acc.length ≤ i → Ev (fun k => L k acc i) (acc ++ ints ((List.range' i d).filter fun e => isAny s && s.toNat.testBit e))
  | 0, i, acc, hd, _ => by
    obtain rfl : i = 8 := by omega
    refine Ev.succ ?_
    simp only [hL, show ¬ (((8 : Nat) : Int) < 8) by decide, if_false]
    simpa [ints] using Ev.now acc
  | d + 1, i, acc, hd, ha => by
    refine Ev.succ ?_
    have h8 : (i : Int) < 8 := by omega
    have hw : wrap64 ((i : Int) + 1) = ((i + 1 : Nat) : Int) := qN (by omega) (by omega)
    simp only [hL, h8, hw, if_true, Int.toNat_natCast, Int.natCast_nonneg, decide_true, Bool.and_true, and_self]
    rw [List.range'_succ]
    cases hb : (isAny s && s.toNat.testBit i)
    · simp only [hb, List.filter_cons, Bool.false_eq_true, if_false]
      exact yw s L hL d (i + 1) acc (by omega) (by omega)
    · simp only [hb, List.filter_cons, if_true, show acc.length < 17592186044416 by omega]
      have := yw s L hL d (i + 1) (acc ++ [(i : Int)]) (by omega) (by simp; omega)
      simpa [ints] using this

theorem JU (s : Int) : (List.range' 0 8).filter (fun e => isAny s && s.toNat.testBit e) = vQ s := by
  unfold vQ elems
  rw [List.range_eq_range']
  cases isAny s <;> simp

theorem Qh (s : Int) : Ev (fun k => zz.f k s) (ints (vQ s)) := by
  have := yw s (fun k acc i => zz.l0 k s acc i) (fun k acc i => by simp only [zz.l0, Qp, Option.bind_some]) 8 0 [] rfl (by simp)
  rw [JU] at this
  simpa [zz.f] using this

theorem QM (s n : Nat) (hn : n ≤ 8) (h : s < 2 ^ n) : elems s = (List.range n).filter s.testBit := by
  unfold elems
  obtain ⟨m, hm⟩ : ∃ m, 8 = n + m := ⟨8 - n, by omega⟩
  rw [hm, List.range_add, List.filter_append]
  have : List.filter s.testBit (List.map (fun x => n + x) (List.range m)) = [] := by
    rw [List.filter_eq_nil_iff]
    intro a ha
    obtain ⟨b, _, rfl⟩ := List.mem_map.1 ha
    rw [Nat.testBit_lt_two_pow (Nat.lt_of_lt_of_le h (Nat.pow_le_pow_right (by decide) (by omega)))]
    simp
  rw [this, List.append_nil]

end Go.Proofs.Ytopkfhnnapncgaa.L
end
section
namespace Go.Proofs.Ytopkfhnnapncgaa.L
open Go.RowKit Go.Proofs.Ytopkfhnnapncgaa.F Go.Proofs.YtopkfhnnapncgaaW.PrintWords Go.Proofs.YtopkfhnnapncgaaW.PrintLast Go.Proofs.YtopkfhnnapncgaaW.PrintMore
open Go.Proofs.Ytopkfhnnapncgaa.Bits
set_option linter.unusedSimpArgs false
def isField (p : Int) : Bool := decide (p = 2 ∨ p = 3 ∨ p = 5 ∨ p = 7)
theorem JZ (p : Int) : qc.f p = some (isField p) := by
  unfold qc.f isField
  by_cases h2 : p = 2
  · simp [h2]
  by_cases h3 : p = 3
  · simp [h3]
  by_cases h5 : p = 5
  · simp [h5]
  rw [if_neg h2, if_neg h3, if_neg h5]
  simp only [h2, h3, h5, false_or]
  rfl
theorem JP (p : Int) : zD.f p = some (isField p) := by
  unfold zD.f isField
  by_cases h2 : p = 2
  · simp [h2]
  by_cases h3 : p = 3
  · simp [h3]
  by_cases h5 : p = 5
  · simp [h5]
  rw [if_neg h2, if_neg h3, if_neg h5]
  simp only [h2, h3, h5, false_or]
  rfl
/-- What a matrix is. -/
def jg (p r c : Int) (l : List Int) : Bool :=
  isField p && decide (0 ≤ r ∧ r ≤ 8 ∧ 0 ≤ c ∧ c ≤ 8 ∧ (l.length : Int) = r * c) && l.all fun x => decide (0 ≤ x ∧ x < p)
theorem qU {p r c : Int} {l : List Int} (h : ¬ (isField p = true ∧ 0 ≤ r ∧ r ≤ 8 ∧ 0 ≤ c ∧ c ≤ 8 ∧ (l.length : Int) = r * c)) : jg p r c l = false := by
  unfold jg
  cases hp : isField p
  · simp
  · have : ¬ (0 ≤ r ∧ r ≤ 8 ∧ 0 ≤ c ∧ c ≤ 8 ∧ (l.length : Int) = r * c) := fun hh => h ⟨hp, hh⟩
    simp only [this, decide_false, Bool.and_false, Bool.false_and]
theorem Zu {r c : Int} (hr : 0 ≤ r ∧ r ≤ 8) (hc : 0 ≤ c ∧ c ≤ 8) : 0 ≤ r * c ∧ r * c ≤ 64 :=
  ⟨Int.mul_nonneg hr.1 hc.1, by have := Int.mul_le_mul hr.2 hc.2 hc.1 (by omega : (0 : Int) ≤ 8); omega⟩
theorem yG {p r c : Int} {l : List Int} (h : isField p = true ∧ 0 ≤ r ∧ r ≤ 8 ∧ 0 ≤ c ∧ c ≤ 8 ∧ (l.length : Int) = r * c) : jg p r c l = l.all fun x => decide (0 ≤ x ∧ x < p) := by
  unfold jg; simp only [h.1, h.2, and_self, decide_true, Bool.and_self, Bool.true_and]
theorem jc {p : Int} (h : isField p = true) : 2 ≤ p ∧ p ≤ 7 := by
  have : p = 2 ∨ p = 3 ∨ p = 5 ∨ p = 7 := of_decide_eq_true h
  omega
theorem Q1 (p r c : Int) (l : List Int) : Ev (fun k => zi.f k p r c l) (jg p r c l) := by
  have no : ∀ p r c l, Ev (fun k => zi.j0 k true p r c l) false := fun p r c l => Ev.succ (by simp only [zi.j0, if_true]; exact Ev.now _)
  unfold zi.f
  simp only [YQ, JP, Option.bind_some, decide_eq_true_eq]
  by_cases hp : isField p = true
  · simp only [hp, if_true]
    by_cases hr : 0 ≤ r ∧ r ≤ 8
    · simp only [hr, and_self, if_true]
      by_cases hc : 0 ≤ c ∧ c ≤ 8
      · simp only [hc, and_self, if_true]
        have hm := Zu hr hc
        have hw : wrap64 (r * c) = r * c := qN (by omega) (by omega)
        rw [hw]
        by_cases he : (l.length : Int) = r * c
        · rw [show ((l.length : Int) != r * c) = false by simp [he], yG ⟨hp, hr.1, hr.2, hc.1, hc.2, he⟩]
          have hp2 := jc hp
          refine Ev.succ ?_
          simp only [zi.j0, Bool.false_eq_true, if_false]
          rw [← ym l 0]
          refine yZ (fun k i => zi.l0 k i p r c l) _ _ (fun k => by simp only [zi.l0, show ¬ ((l.length : Int) < (l.length : Int)) by omega, if_false]) ?_
          intro i hi k
          have hw : wrap64 (p - 1) = p - 1 := qN (by omega) (by omega)
          simp only [zi.l0, show ((i : Int) < (l.length : Int)) by omega, show (0 : Int) ≤ (i : Int) by omega, if_true, jb, zY (show i < 9223372036854775807 by omega), YQ, hw, Option.bind_some, decide_eq_true_eq]
          generalize l.getD i 0 = x
          by_cases h1 : 0 ≤ x ∧ x ≤ p - 1
          · rw [if_pos h1, if_pos (by omega)]
          · rw [if_neg h1, if_neg (by omega)]
        · rw [show ((l.length : Int) != r * c) = true by simp [he], qU (fun hh => he hh.2.2.2.2.2)]; exact no _ _ _ _
      · simp only [hc, if_false]; rw [qU (fun hh => hc ⟨hh.2.2.2.1, hh.2.2.2.2.1⟩)]; exact no _ _ _ _
    · simp only [hr, if_false]; rw [qU (fun hh => hr ⟨hh.2.1, hh.2.2.1⟩)]; exact no _ _ _ _
  · simp only [hp, if_false]; rw [qU (fun hh => hp hh.1)]; exact no _ _ _ _
theorem Jb (p r c : Int) (l : List Int) : Ev (fun k => zk.f k p r c l) (jg p r c l) := by
  have no : ∀ p r c l, Ev (fun k => zk.j0 k true p r c l) false := fun p r c l => Ev.succ (by simp only [zk.j0, if_true]; exact Ev.now _)
  unfold zk.f
  simp only [QQ, JZ, Option.bind_some, decide_eq_true_eq]
  by_cases hp : isField p = true
  · simp only [hp, if_true]
    by_cases hr : 0 ≤ r ∧ r ≤ 8
    · simp only [hr, and_self, if_true]
      by_cases hc : 0 ≤ c ∧ c ≤ 8
      · simp only [hc, and_self, if_true]
        have hm := Zu hr hc
        have hw : wrap64 (r * c) = r * c := qN (by omega) (by omega)
        rw [hw]
        by_cases he : (l.length : Int) = r * c
        · rw [show ((l.length : Int) != r * c) = false by simp [he], yG ⟨hp, hr.1, hr.2, hc.1, hc.2, he⟩]
          refine Ev.succ ?_
          simp only [zk.j0, Bool.false_eq_true, if_false]
          rw [← ym l 0]
          refine yZ (fun k i => zk.l0 k l (l.length : Int) i p r c l) _ _ (fun k => by simp only [zk.l0, show ¬ ((l.length : Int) < (l.length : Int)) by omega, if_false]) ?_
          intro i hi k
          simp only [zk.l0, show ((i : Int) < (l.length : Int)) by omega, show (0 : Int) ≤ (i : Int) by omega, if_true, jb, zY (show i < 9223372036854775807 by omega), decide_eq_true_eq]
          generalize l.getD i 0 = x
          by_cases h1 : x < 0
          · rw [if_pos h1, if_neg (by omega)]
          rw [if_neg h1]
          by_cases h2 : x ≥ p
          · rw [if_pos h2, if_neg (by omega)]
          rw [if_neg h2, if_pos (by omega)]
        · rw [show ((l.length : Int) != r * c) = true by simp [he], qU (fun hh => he hh.2.2.2.2.2)]; exact no _ _ _ _
      · simp only [hc, if_false]; rw [qU (fun hh => hc ⟨hh.2.2.2.1, hh.2.2.2.2.1⟩)]; exact no _ _ _ _
    · simp only [hr, if_false]; rw [qU (fun hh => hr ⟨hh.2.1, hh.2.2.1⟩)]; exact no _ _ _ _
  · simp only [hp, if_false]; rw [qU (fun hh => hp hh.1)]; exact no _ _ _ _
theorem Zx (p r c : Int) (l : List Int) (h : l.length ≤ 17592186044416) : Ev (fun k => zE.f k p r c l) (p, r, c, l) := by
  unfold zE.f
  exact Ev.bind (YS l h) (Ev.now _)
theorem Va (p r c : Int) (l : List Int) (p' r' c' : Int) (l' : List Int) (h : l.length ≤ 17592186044416) : Ev (fun k => qe.f k p r c l p' r' c' l') (decide ((p, r, c, l) = (p', r', c', l'))) := by
  unfold qe.f
  by_cases h1 : p = p'
  · by_cases h2 : r = r'
    · by_cases h3 : c = c'
      · simp only [h1, h2, h3, if_true]
        refine Ev.bind (Y7 l l' h) ?_
        by_cases h4 : l = l'
        · simp only [h4, decide_true, if_true]; exact Ev.now _
        · simp only [h4, decide_false, Bool.false_eq_true, if_false]; simp only [Prod.mk.injEq, h4, and_false, decide_false]; exact Ev.now _
      · simp only [h1, h2, h3, if_true, if_false, Prod.mk.injEq, and_false, false_and, decide_false]; exact Ev.now _
    · simp only [h1, h2, if_true, if_false, Prod.mk.injEq, and_false, false_and, decide_false]; exact Ev.now _
  · simp only [h1, if_false, Prod.mk.injEq, false_and, decide_false]; exact Ev.now _
theorem VB (p r c : Int) (l : List Int) (n : Int) (h : l.length ≤ 17592186044416) (h0 : 0 ≤ n) (h1 : n ≤ 1048576) : ∃ m, qG.f p r c l n = some m ∧ (m < 0 ∨ (0 ≤ m ∧ m ≤ 1048576 ∧ l.length ≤ 1048576)) := by
  unfold qG.f
  rw [YK l n h h0 h1]
  simp only [Option.bind_some]
  by_cases hn : n < (l.length : Int)
  · rw [if_pos hn, if_pos (by decide)]
    exact ⟨_, rfl, .inl (by decide)⟩
  · rw [if_neg hn, if_neg (by omega)]
    exact ⟨_, rfl, .inr (by omega)⟩
end Go.Proofs.Ytopkfhnnapncgaa.L
end
section
namespace Go.Proofs.Ytopkfhnnapncgaa.L
open Go.RowKit Go.Proofs.Ytopkfhnnapncgaa.F Go.Proofs.YtopkfhnnapncgaaW.PrintWords Go.Proofs.YtopkfhnnapncgaaW.PrintLast Go.Proofs.YtopkfhnnapncgaaW.PrintMore
open Go.Proofs.Ytopkfhnnapncgaa.Bits
set_option linter.unusedSimpArgs false
set_option linter.unusedVariables false
/-- What a matrix holds, in natural numbers' places. -/
theorem yS {p r c : Int} {l : List Int} (h : jg p r c l = true) : ∃ R C : Nat, r = R ∧ c = C ∧ R ≤ 8 ∧ C ≤ 8 ∧ l.length = R * C ∧ 2 ≤ p ∧ p ≤ 7 ∧ isField p = true ∧ ∀ x ∈ l, 0 ≤ x ∧ x < p := by
  unfold jg at h
  simp only [Bool.and_eq_true, decide_eq_true_eq] at h
  obtain ⟨⟨h1, h2, h3, h4, h5, h6⟩, h7⟩ := h
  obtain ⟨R, rfl⟩ := Int.eq_ofNat_of_zero_le h2
  obtain ⟨C, rfl⟩ := Int.eq_ofNat_of_zero_le h4
  have := jc h1
  refine ⟨R, C, rfl, rfl, by omega, by omega, ?_, this.1, this.2, h1, fun x hx => ?_⟩
  · have : ((l.length : Nat) : Int) = ((R * C : Nat) : Int) := by rw [h6]; simp
    omega
  · have := List.all_eq_true.1 h7 x hx; simpa using this
theorem Yo {R C i j : Nat} {l : List Int} (hl : l.length = R * C) (hi : i < R) (hj : j < C) : i * C + j < l.length := by
  rw [hl]; calc i * C + j < i * C + C := by omega
    _ = (i + 1) * C := by rw [Nat.succ_mul]
    _ ≤ R * C := Nat.mul_le_mul_right C hi
/-- The index of a cell, as1 the program computes it. -/
theorem jf {i C j : Nat} (hi : i ≤ 8) (hC : C ≤ 8) (hj : j ≤ 8) : wrap64 ((wrap64 ((i : Int) * (C : Int))) + (j : Int)) = ((i * C + j : Nat) : Int) := by
  have h : i * C ≤ 8 * 8 := Nat.mul_le_mul hi hC
  have e : (i : Int) * (C : Int) = ((i * C : Nat) : Int) := by simp
  rw [e, qN (n := ((i * C : Nat) : Int)) (by omega) (by omega), qN (by omega) (by omega)]; omega
theorem Jr {l : List Int} {p : Int} (hp : 2 ≤ p) (h : ∀ x ∈ l, 0 ≤ x ∧ x < p) (i : Nat) : 0 ≤ l.getD i 0 ∧ l.getD i 0 < p := by
  by_cases hi : i < l.length
  · have := h l[i] (List.getElem_mem hi); simpa [List.getElem?_eq_getElem hi] using this
  · simp [List.getElem?_eq_none (Nat.le_of_not_lt hi)]; omega
end Go.Proofs.Ytopkfhnnapncgaa.L
end
section
namespace Go.Proofs.Ytopkfhnnapncgaa.L
open Go.RowKit Go.Proofs.Ytopkfhnnapncgaa.F Go.Proofs.YtopkfhnnapncgaaW.PrintWords Go.Proofs.YtopkfhnnapncgaaW.PrintLast Go.Proofs.YtopkfhnnapncgaaW.PrintMore
open Go.Proofs.Ytopkfhnnapncgaa.Bits
set_option linter.unusedSimpArgs false
set_option linter.unusedVariables false
theorem J4 : ∀ k : Nat, (zp.f (k + 20) 2 1 = some 1 ∧ zm.f (k + 20) 2 1 = some 1) ∧
    (zp.f (k + 20) 3 1 = some 1 ∧ zm.f (k + 20) 3 1 = some 1) ∧ (zp.f (k + 20) 3 2 = some 2 ∧ zm.f (k + 20) 3 2 = some 2) ∧
    (zp.f (k + 20) 5 1 = some 1 ∧ zm.f (k + 20) 5 1 = some 1) ∧ (zp.f (k + 20) 5 2 = some 3 ∧ zm.f (k + 20) 5 2 = some 3) ∧ (zp.f (k + 20) 5 3 = some 2 ∧ zm.f (k + 20) 5 3 = some 2) ∧ (zp.f (k + 20) 5 4 = some 4 ∧ zm.f (k + 20) 5 4 = some 4) ∧
    (zp.f (k + 20) 7 1 = some 1 ∧ zm.f (k + 20) 7 1 = some 1) ∧ (zp.f (k + 20) 7 2 = some 4 ∧ zm.f (k + 20) 7 2 = some 4) ∧ (zp.f (k + 20) 7 3 = some 5 ∧ zm.f (k + 20) 7 3 = some 5) ∧ (zp.f (k + 20) 7 4 = some 2 ∧ zm.f (k + 20) 7 4 = some 2) ∧ (zp.f (k + 20) 7 5 = some 3 ∧ zm.f (k + 20) 7 5 = some 3) ∧ (zp.f (k + 20) 7 6 = some 6 ∧ zm.f (k + 20) 7 6 = some 6) :=
  fun k => ⟨⟨by kernel_rfl, by kernel_rfl⟩, ⟨by kernel_rfl, by kernel_rfl⟩, ⟨by kernel_rfl, by kernel_rfl⟩, ⟨by kernel_rfl, by kernel_rfl⟩, ⟨by kernel_rfl, by kernel_rfl⟩, ⟨by kernel_rfl, by kernel_rfl⟩, ⟨by kernel_rfl, by kernel_rfl⟩, ⟨by kernel_rfl, by kernel_rfl⟩, ⟨by kernel_rfl, by kernel_rfl⟩, ⟨by kernel_rfl, by kernel_rfl⟩, ⟨by kernel_rfl, by kernel_rfl⟩, ⟨by kernel_rfl, by kernel_rfl⟩, ⟨by kernel_rfl, by kernel_rfl⟩⟩
theorem J9 {p a : Int} (hp : isField p = true) (ha : 1 ≤ a) (hap : a < p) : ∀ k, zp.f (k + 20) p a = some (jy p a) ∧ zm.f (k + 20) p a = some (jy p a) := fun k => by
  obtain ⟨h1, h2, h3, h4, h5, h6, h7, h8, h9, h10, h11, h12, h13⟩ := J4 k
  have hp : p = 2 ∨ p = 3 ∨ p = 5 ∨ p = 7 := by simpa [isField] using hp
  rcases hp with rfl | rfl | rfl | rfl
  · obtain rfl : a = 1 := by omega
    exact h1
  · rcases (show a = 1 ∨ a = 2 by omega) with rfl | rfl <;> assumption
  · rcases (show a = 1 ∨ a = 2 ∨ a = 3 ∨ a = 4 by omega) with rfl | rfl | rfl | rfl <;> assumption
  · rcases (show a = 1 ∨ a = 2 ∨ a = 3 ∨ a = 4 ∨ a = 5 ∨ a = 6 by omega) with rfl | rfl | rfl | rfl | rfl | rfl <;> assumption
theorem zaj {p a : Int} (hp : isField p = true) (ha : 1 ≤ a) (hap : a < p) : Ev (fun k => zm.f k p a) (jy p a) :=
  ⟨20, fun k hk => by obtain ⟨m, rfl⟩ := Nat.exists_eq_add_of_le hk; rw [Nat.add_comm]; exact (J9 hp ha hap m).2⟩
theorem vx {x y : Int} (hx : 0 ≤ x ∧ x ≤ 7) (hy : 0 ≤ y ∧ y ≤ 7) : 0 ≤ x * y ∧ x * y ≤ 64 := Zu ⟨hx.1, by omega⟩ ⟨hy.1, by omega⟩
theorem wrap_mul {x y : Int} (hx : 0 ≤ x ∧ x ≤ 7) (hy : 0 ≤ y ∧ y ≤ 7) : wrap64 (x * y) = x * y := qN (by have := vx hx hy; omega) (by have := vx hx hy; omega)
theorem J3 {p g : Int} (hp : 2 ≤ p ∧ p ≤ 7) (hg : 0 ≤ g ∧ g < p) : wrap64 (p - g) = p - g := qN (by omega) (by omega)
theorem JN {x p g y : Int} (hp : 2 ≤ p ∧ p ≤ 7) (hx : 0 ≤ x ∧ x < p) (hg : 0 ≤ g ∧ g < p) (hy : 0 ≤ y ∧ y < p) : wrap64 (x + wrap64 (wrap64 (p - g) * y)) = x + (p - g) * y := by
  rw [J3 hp hg, wrap_mul ⟨by omega, by omega⟩ ⟨hy.1, by omega⟩]
  have := vx (x := p - g) (y := y) ⟨by omega, by omega⟩ ⟨hy.1, by omega⟩
  exact qN (by omega) (by omega)
theorem Vo (M : Tab) (a b j : Nat) : upd (upd M a j (M b j)) b j (M a j) = qJ (qF a b) M j := by
  funext i c
  unfold upd qJ qF
  by_cases h1 : c = j
  · subst h1
    by_cases h2 : i = b
    · subst h2; simp
    · by_cases h3 : i = a
      · subst h3; simp [h2]
      · simp [h2, h3]
  · simp [h1]
theorem JY (M : Tab) (p : Int) (r j : Nat) (x : Int) : upd M r j (Int.tmod (M r j * x) p) = qJ (jV p r x) M j := by
  funext i c
  unfold upd qJ jV
  by_cases h1 : c = j
  · subst h1
    by_cases h2 : i = r
    · subst h2; simp
    · simp [h2]
  · simp [h1]
theorem VQ (M : Tab) (p : Int) (r i0 j : Nat) (g : Int) : upd M i0 j (Int.tmod (M i0 j + (p - g) * M r j) p) = qJ (Ze p r i0 g) M j := by
  funext i c
  unfold upd qJ Ze
  by_cases h1 : c = j
  · subst h1
    by_cases h2 : i = i0
    · subst h2; simp
    · simp [h2]
  · simp [h1]
/-- What a fold by columns leaves alone is in the field still. -/
theorem yu {p : Int} {R C : Nat} {F : (Nat → Int) → Nat → Int} (hF : ∀ M : Tab, InF p R C M → InF p R C (zQ F M)) {M : Tab} (h : InF p R C M) {j : Nat} (hj : j < C) : InF p R C (qJ F M j) := fun i c hi hc => by
  unfold qJ
  split
  · exact hF M h i j hi hj
  · exact h i c hi hc
section
variable {p : Int} {R C : Nat} (hR : R ≤ 8) (hC : C ≤ 8) (hf : isField p = true)
include hR hC
include hf
end
end Go.Proofs.Ytopkfhnnapncgaa.L
end
section
namespace Go.Proofs.Ytopkfhnnapncgaa.Mt
theorem jD (a b i : Nat) : (a ||| b).testBit i = (a.testBit i || b.testBit i) := Nat.testBit_or a b i
theorem qY (a b i : Nat) : (a &&& b).testBit i = (a.testBit i && b.testBit i) := Nat.testBit_and a b i
theorem Qi (e i : Nat) : (2 ^ e).testBit i = decide (e = i) := by
  rw [Nat.testBit_two_pow]
theorem jh (i : Nat) : (0 : Nat).testBit i = false := Nat.zero_testBit i
theorem ext {a b : Nat} (h : ∀ i, a.testBit i = b.testBit i) : a = b := Nat.eq_of_testBit_eq h
/-- s with e; s without e. -/
def ins (s e : Nat) : Nat := s ||| 2 ^ e
def del (s e : Nat) : Nat := sdiff s (2 ^ e)
theorem zX (s e i : Nat) : (ins s e).testBit i = (s.testBit i || decide (e = i)) := by rw [ins, jD, Qi]
theorem qz (s e i : Nat) : (del s e).testBit i = (s.testBit i && !decide (e = i)) := by rw [del, qI, Qi]
def sub (a b : Nat) : Prop := ∀ i, a.testBit i = true → b.testBit i = true
theorem yO (a : Nat) : sub a a := fun _ h => h
theorem qS {a b c : Nat} (h : sub a b) (k : sub b c) : sub a c := fun i hi => k i (h i hi)
theorem yQ {a b : Nat} (h : sub a b) (k : sub b a) : a = b := ext fun i => by
  have h1 := h i; have h2 := k i
  cases ha : a.testBit i <;> cases hb : b.testBit i <;> simp_all
theorem Zf {a b : Nat} : sub a b ↔ a &&& b = a := by
  constructor
  · intro h; apply ext; intro i; rw [qY]; have := h i; cases ha : a.testBit i <;> simp_all
  · intro h i hi; have := congrArg (fun x => Nat.testBit x i) h; simp only [qY, hi, Bool.true_and] at this; exact this
theorem ZR {a b : Nat} : sub a b ↔ sdiff a b = 0 := by
  constructor
  · intro h; apply ext; intro i; rw [qI, jh]; have := h i; cases ha : a.testBit i <;> simp_all
  · intro h i hi
    have := congrArg (fun x => Nat.testBit x i) h
    simp only [qI, hi, jh, Bool.true_and, Bool.not_eq_false'] at this; exact this
theorem yb (s e : Nat) : sub s (ins s e) := fun i hi => by rw [zX, hi, Bool.true_or]
theorem Jj (s e : Nat) : (ins s e).testBit e = true := by simp [zX]
theorem vG (s e : Nat) : sub (del s e) s := fun i hi => by rw [qz] at hi; simp at hi; exact hi.1
theorem q6 (a b : Nat) : sub (a &&& b) a := fun i hi => by rw [qY] at hi; simp at hi; exact hi.1
theorem vv (a b : Nat) : sub (a &&& b) b := fun i hi => by rw [qY] at hi; simp at hi; exact hi.2
theorem QF (a b : Nat) : sub a (a ||| b) := fun i hi => by rw [jD, hi, Bool.true_or]
theorem Yd {a b c : Nat} (h : sub c a) (k : sub c b) : sub c (a &&& b) := fun i hi => by rw [qY, h i hi, k i hi]; rfl
theorem YX {s e : Nat} (h : s.testBit e = true) : ins s e = s := ext fun i => by
  rw [zX]; by_cases he : e = i
  · subst he; simp [h]
  · simp [he]
theorem Qt {a b : Nat} (h : ¬ sub a b) : ∃ i, a.testBit i = true ∧ b.testBit i = false := by
  apply Classical.byContradiction
  intro hn; apply h; intro i hi
  cases hb : b.testBit i
  · exact absurd ⟨i, hi, hb⟩ hn
  · rfl
theorem jq {s n i : Nat} (h : s < 2 ^ n) (hi : s.testBit i = true) : i < n := by
  rcases Nat.lt_or_ge i n with h' | h'
  · exact h'
  · rw [Nat.testBit_lt_two_pow (Nat.lt_of_lt_of_le h (Nat.pow_le_pow_right (by decide) h'))] at hi; cases hi
theorem yp {s n : Nat} (h : ∀ i, s.testBit i = true → i < n) : s < 2 ^ n := Nat.lt_pow_two_of_testBit s fun i hi => by
  cases hb : s.testBit i
  · rfl
  · have := h i hb; omega
theorem qx {a b n : Nat} (h : sub a b) (hb : b < 2 ^ n) : a < 2 ^ n := yp fun i hi => jq hb (h i hi)
/-- All elements below n. -/
def full (n : Nat) : Nat := 2 ^ n - 1
theorem Vv (n i : Nat) : (full n).testBit i = decide (i < n) := Nat.testBit_two_pow_sub_one n i
theorem Vl {s n : Nat} (h : s < 2 ^ n) : sub s (full n) := fun i hi => by rw [Vv]; exact decide_eq_true (jq h hi)
def cnt (s : Nat) : Nat := (List.range 8).countP s.testBit
theorem yj (p q : Nat → Bool) : ∀ l : List Nat, l.countP (fun i => p i || q i) + l.countP (fun i => p i && q i) = l.countP p + l.countP q
  | [] => rfl
  | a :: l => by
    have := yj p q l
    simp only [List.countP_cons]
    cases p a <;> cases q a <;> simp <;> omega
theorem Zq (a b : Nat) : cnt (a ||| b) + cnt (a &&& b) = cnt a + cnt b := by
  have := yj a.testBit b.testBit (List.range 8)
  simp only [cnt]
  rw [show Nat.testBit (a ||| b) = fun i => a.testBit i || b.testBit i from funext (jD a b), show Nat.testBit (a &&& b) = fun i => a.testBit i && b.testBit i from funext (qY a b)]
  exact this
theorem j9 {a b : Nat} (h : sub a b) : cnt a ≤ cnt b := List.countP_mono_left fun i _ hi => h i hi
theorem Vx : cnt 0 = 0 := by decide
theorem yB {a b : Nat} (h : a &&& b = 0) : cnt (a ||| b) = cnt a + cnt b := by have := Zq a b; rw [h, Vx] at this; omega
theorem Yi {e : Nat} (h : e < 8) : cnt (2 ^ e) = 1 := by
  have : ∀ e, e < 8 → cnt (2 ^ e) = 1 := by decide
  exact this e h
theorem ZY (a b : Nat) : cnt (sdiff a b) + cnt (a &&& b) = cnt a := by
  have h : sdiff a b &&& (a &&& b) = 0 := ext fun i => by simp only [qY, qI, jh]; cases a.testBit i <;> cases b.testBit i <;> rfl
  have k : sdiff a b ||| (a &&& b) = a := ext fun i => by simp only [jD, qY, qI]; cases a.testBit i <;> cases b.testBit i <;> rfl
  rw [← yB h, k]
theorem vz {a b : Nat} (h : sub b a) : cnt (sdiff a b) + cnt b = cnt a := by
  have := ZY a b
  rwa [show a &&& b = b from by rw [Nat.and_comm]; exact Zf.1 h] at this
theorem vZ {s e : Nat} (he : e < 8) (h : s.testBit e = false) : cnt (ins s e) = cnt s + 1 := by
  have : s &&& 2 ^ e = 0 := ext fun i => by
    rw [qY, Qi, jh]; by_cases hi : e = i
    · subst hi; simp [h]
    · simp [hi]
  rw [ins, yB this, Yi he]
theorem ye {s e : Nat} (he : e < 8) (h : s.testBit e = true) : cnt (del s e) + 1 = cnt s := by
  have k : ins (del s e) e = s := ext fun i => by
    rw [zX, qz]; by_cases hi : e = i
    · subst hi; simp [h]
    · simp [hi]
  have := vZ (s := del s e) he (by simp [qz])
  rw [k] at this; omega
theorem VY {s e : Nat} (he : e < 8) (h : s.testBit e = true) : 0 < cnt s := by have := ye he h; omega
theorem Zw {s : Nat} (hs : s < 256) (h : cnt s = 0) : s = 0 := by
  apply ext; intro i; rw [jh]
  cases hb : s.testBit i
  · rfl
  · have := VY (jq (n := 8) hs hb) hb; omega
theorem Zy {a b : Nat} (ha : a < 256) (h : cnt (a &&& b) = cnt a) : sub a b := by
  have := ZY a b
  have hz : cnt (sdiff a b) = 0 := by omega
  exact ZR.2 (Zw (qx (n := 8) (fun i hi => by rw [qI] at hi; simp at hi; exact hi.1) ha) hz)
theorem Vp {n : Nat} (h : n ≤ 8) : cnt (full n) = n := by
  have : ∀ n, n ≤ 8 → cnt (full n) = n := by decide
  exact this n h
theorem yX {a b : Nat} (h : cnt b < cnt a) : ∃ i, a.testBit i = true ∧ b.testBit i = false :=
  Qt fun k => by have := j9 k; omega

/-- The bases of a matroid of n elements: by exchange. -/
structure Mat (n : Nat) (B : List Nat) : Prop where
  size : n ≤ 8
  lt : ∀ b ∈ B, b < 2 ^ n
  ne : B ≠ []
  ex : ∀ a ∈ B, ∀ b ∈ B, ∀ e, a.testBit e = true → b.testBit e = false → ∃ f, b.testBit f = true ∧ a.testBit f = false ∧ ins (del a e) f ∈ B
section
variable {n : Nat} {B : List Nat}
theorem yR {s n : Nat} (hn : n ≤ 8) (h : s < 2 ^ n) : s < 256 := Nat.lt_of_lt_of_le h (Nat.pow_le_pow_right (n := 2) (by decide) hn)
theorem Mat.lt8 (M : Mat n B) {b : Nat} (h : b ∈ B) : b < 256 := yR M.size (M.lt b h)
theorem Mat.YF (M : Mat n B) {b e : Nat} (h : b ∈ B) (he : b.testBit e = true) : e < 8 := jq (n := 8) (M.lt8 h) he
theorem Vi {a e f : Nat} (ha : a < 256) (hf8 : f < 8) (he : a.testBit e = true) (hf : a.testBit f = false) : cnt (ins (del a e) f) = cnt a := by
  have h8 : e < 8 := jq (n := 8) ha he
  have h1 := ye h8 he
  have h2 := vZ (s := del a e) hf8 (by rw [qz, hf]; rfl)
  omega
theorem Mat.le (M : Mat n B) : ∀ k a b, a ∈ B → b ∈ B → cnt (sdiff a b) = k → cnt a ≤ cnt b := by
  intro k
  induction k using Nat.strongRecOn with
  | _ k ih =>
    intro a b ha hb hk
    by_cases hs : sub a b
    · exact j9 hs
    · obtain ⟨e, he, heb⟩ := Qt hs
      obtain ⟨f, hfb, hfa, hin⟩ := M.ex a ha b hb e he heb
      have e8 := M.YF ha he
      have f8 := M.YF hb hfb
      have hsw := Vi (M.lt8 ha) f8 he hfa
      have hd : sdiff (ins (del a e) f) b = del (sdiff a b) e := ext fun i => by
        simp only [qI, zX, qz]
        by_cases hi : f = i
        · subst hi; simp [hfb]
        · simp only [hi, decide_false, Bool.or_false]; cases a.testBit i <;> cases b.testBit i <;> simp
      have hc := ye (s := sdiff a b) e8 (by rw [qI, he, heb]; rfl)
      have := ih (cnt (del (sdiff a b) e)) (by omega) (ins (del a e) f) b hin hb (by rw [hd])
      omega
/-- All bases are of one size. -/
theorem Mat.YB (M : Mat n B) {a b : Nat} (ha : a ∈ B) (hb : b ∈ B) : cnt a = cnt b := Nat.le_antisymm (M.le _ a b ha hb rfl) (M.le _ b a hb ha rfl)

/-- The rank of s: the most that a base has of it. -/
def rk (B : List Nat) (s : Nat) : Nat := B.foldl (fun m b => max m (cnt (s &&& b))) 0
theorem yP {α : Type} (f : α → Nat) : ∀ (l : List α) (m k : Nat), l.foldl (fun m b => max m (f b)) m ≤ k ↔ m ≤ k ∧ ∀ b ∈ l, f b ≤ k
  | [], m, k => by simp
  | a :: l, m, k => by
    rw [List.foldl_cons, yP f l]
    simp only [List.mem_cons, forall_eq_or_imp, Nat.max_le, and_assoc]
theorem Ji {s k : Nat} : rk B s ≤ k ↔ ∀ b ∈ B, cnt (s &&& b) ≤ k := by
  unfold rk; rw [yP (fun b => cnt (s &&& b))]; simp
theorem VE {b : Nat} (hb : b ∈ B) (s : Nat) : cnt (s &&& b) ≤ rk B s := Ji.1 (Nat.le_refl _) b hb
theorem Yr (hB : B ≠ []) (s : Nat) : ∃ b ∈ B, cnt (s &&& b) = rk B s := by
  apply Classical.byContradiction
  intro h
  have h1 : ∀ b ∈ B, cnt (s &&& b) < rk B s := fun b hb => Nat.lt_of_le_of_ne (VE hb s) fun e => h ⟨b, hb, e⟩
  obtain ⟨c, hc⟩ := List.exists_mem_of_ne_nil B hB
  have h2 : rk B s ≤ rk B s - 1 := Ji.2 fun b hb => by have := h1 b hb; omega
  have := h1 c hc
  omega
theorem ZW (s : Nat) : rk B s ≤ cnt s := Ji.2 fun _ _ => j9 (q6 _ _)
theorem jC {s t : Nat} (h : sub s t) : rk B s ≤ rk B t := Ji.2 fun b hb => Nat.le_trans (j9 (fun i hi => by
  rw [qY] at hi ⊢; simp at hi ⊢; exact ⟨h i hi.1, hi.2⟩)) (VE hb t)
/-- A set within a base. -/
def ind (B : List Nat) (s : Nat) : Prop := ∃ b ∈ B, sub s b
theorem j5 {s t : Nat} (h : sub s t) (k : ind B t) : ind B s := by obtain ⟨b, hb, hs⟩ := k; exact ⟨b, hb, qS h hs⟩
theorem jK (hB : B ≠ []) {s : Nat} (hs : s < 256) : ind B s ↔ rk B s = cnt s := by
  constructor
  · rintro ⟨b, hb, h⟩
    have := VE hb s
    rw [Zf.1 h] at this
    exact Nat.le_antisymm (ZW s) this
  · intro h
    obtain ⟨b, hb, hc⟩ := Yr hB s
    exact ⟨b, hb, Zy hs (by omega)⟩
/-- What is within a base grows to a base by elements of any other. -/
theorem Mat.grow (M : Mat n B) {I c : Nat} (hI : ind B I) (hc : c ∈ B) : ∃ b ∈ B, sub I b ∧ sub b (I ||| c) := by
  obtain ⟨b0, hb0, hs0⟩ := hI
  have key : ∀ k b, b ∈ B → sub I b → cnt (sdiff b (I ||| c)) = k → ∃ b ∈ B, sub I b ∧ sub b (I ||| c) := by
    intro k
    induction k using Nat.strongRecOn with
    | _ k ih =>
      intro b hb hs hk
      by_cases hh : sub b (I ||| c)
      · exact ⟨b, hb, hs, hh⟩
      · obtain ⟨e, he, hn⟩ := Qt hh
        rw [jD] at hn
        have hn' := Bool.or_eq_false_iff.1 hn
        obtain ⟨f, hfc, hfb, hin⟩ := M.ex b hb c hc e he hn'.2
        have hd : sdiff (ins (del b e) f) (I ||| c) = del (sdiff b (I ||| c)) e := ext fun i => by
          simp only [qI, zX, qz, jD]
          by_cases hi : f = i
          · subst hi; simp [hfc]
          · simp only [hi, decide_false, Bool.or_false]; cases b.testBit i <;> cases I.testBit i <;> cases c.testBit i <;> simp
        have h1 := ye (s := sdiff b (I ||| c)) (M.YF hb he) (by rw [qI, he, jD, hn]; rfl)
        refine ih _ (by rw [hd]; omega) _ hin (fun i hi => ?_) rfl
        rw [zX, qz, hs i hi]
        have : e ≠ i := fun h => by subst h; rw [hi] at hn'; exact absurd hn'.1 (by simp)
        simp [this]
  exact key _ b0 hb0 hs0 rfl
/-- The smaller of two independent sets takes an element of the greater. -/
theorem Mat.V3 (M : Mat n B) {I J : Nat} (hI : ind B I) (hJ : ind B J) (h : cnt I < cnt J) : ∃ x, J.testBit x = true ∧ I.testBit x = false ∧ ind B (ins I x) := by
  obtain ⟨c, hc, hJc⟩ := hJ
  obtain ⟨b, hb, hIb, hbc⟩ := M.grow hI hc
  apply Classical.byContradiction
  intro hn
  have h1 : sub (b &&& J) I := fun i hi => by
    rw [qY] at hi; simp at hi
    cases hx : I.testBit i
    · exact absurd ⟨i, hi.2, hx, b, hb, fun j hj => by
        rw [zX] at hj; rcases Bool.or_eq_true_iff.1 hj with hj | hj
        · exact hIb j hj
        · rw [← of_decide_eq_true hj]; exact hi.1⟩ hn
    · rfl
  -- b without I lies in c without J
  have h2 : sub (sdiff b I) (sdiff c J) := fun i hi => by
    rw [qI] at hi ⊢; simp at hi
    have h3 := hbc i hi.1
    rw [jD, hi.2, Bool.false_or] at h3
    rw [h3, Bool.true_and]
    cases hj : J.testBit i
    · rfl
    · have := h1 i (by rw [qY, hi.1, hj]; rfl); rw [hi.2] at this; cases this
  have c1 := j9 h2
  have c2 := vz hIb
  have c3 := vz hJc
  have c4 := M.YB hb hc
  omega
/-- An independent part of s that is as1 great as1 its rank, around any independent part of s. -/
theorem Mat.yf (M : Mat n B) {s I : Nat} (hs : s < 256) (hI : ind B I) (hIs : sub I s) : ∃ J, ind B J ∧ sub I J ∧ sub J s ∧ cnt J = rk B s := by
  obtain ⟨b, hb, hc⟩ := Yr M.ne s
  have hJ0 : ind B (s &&& b) := ⟨b, hb, vv _ _⟩
  have key : ∀ k I, ind B I → sub I s → rk B s - cnt I = k → ∃ J, ind B J ∧ sub I J ∧ sub J s ∧ cnt J = rk B s := by
    intro k
    induction k with
    | zero =>
      intro I hI hIs hk
      have h1 : cnt I ≤ rk B s := by rw [← (jK M.ne (qx (n := 8) hIs hs)).1 hI]; exact jC hIs
      exact ⟨I, hI, yO _, hIs, by omega⟩
    | succ k ih =>
      intro I hI hIs hk
      obtain ⟨x, hx, hxI, hin⟩ := M.V3 hI hJ0 (by omega)
      have hxs : s.testBit x = true := q6 _ _ x hx
      have h8 : x < 8 := jq (n := 8) hs hxs
      have h1 := vZ h8 hxI
      have hsub : sub (ins I x) s := fun i hi => by
        rw [zX] at hi; rcases Bool.or_eq_true_iff.1 hi with hi | hi
        · exact hIs i hi
        · rw [← of_decide_eq_true hi]; exact hxs
      obtain ⟨J, h2, h3, h4, h5⟩ := ih (ins I x) hin hsub (by omega)
      exact ⟨J, h2, qS (yb I x) h3, h4, h5⟩
  exact key _ I hI hIs rfl
theorem ZM (hB : B ≠ []) : ind B 0 := by
  obtain ⟨c, hc⟩ := List.exists_mem_of_ne_nil B hB
  exact ⟨c, hc, fun i hi => by rw [jh] at hi; cases hi⟩
/-- The rank of what is gathered and of what is common: no more than both together. -/
theorem Mat.YR (M : Mat n B) {s t : Nat} (hs : s < 256) (ht : t < 256) : rk B (s ||| t) + rk B (s &&& t) ≤ rk B s + rk B t := by
  have hst : s ||| t < 256 := Nat.or_lt_two_pow (n := 8) hs ht
  have hand : s &&& t < 256 := Nat.and_lt_two_pow (n := 8) _ ht
  obtain ⟨I, hI, _, hIs, hIc⟩ := M.yf hand (ZM M.ne) (fun i hi => by rw [jh] at hi; cases hi)
  obtain ⟨J, hJ, hIJ, hJs, hJc⟩ := M.yf hst hI (qS hIs (qS (q6 _ _) (QF _ _)))
  have h1 : ind B (J &&& s) := j5 (q6 _ _) hJ
  have h2 : ind B (J &&& t) := j5 (q6 _ _) hJ
  have hJ8 : J < 256 := qx (n := 8) hJs hst
  have c1 : cnt (J &&& s) ≤ rk B s := by
    rw [← (jK M.ne (qx (n := 8) (q6 _ _) hJ8)).1 h1]; exact jC (vv _ _)
  have c2 : cnt (J &&& t) ≤ rk B t := by
    rw [← (jK M.ne (qx (n := 8) (q6 _ _) hJ8)).1 h2]; exact jC (vv _ _)
  have c3 := Zq (J &&& s) (J &&& t)
  have e1 : J &&& s ||| J &&& t = J := ext fun i => by
    rw [jD, qY, qY]; have := hJs i; rw [jD] at this
    revert this
    cases J.testBit i <;> cases s.testBit i <;> cases t.testBit i <;> simp
  have e2 : sub I (J &&& s &&& (J &&& t)) := fun i hi => by
    have a := hIJ i hi; have b := hIs i hi; rw [qY] at b; simp at b
    simp [a, b]
  have c4 := j9 e2
  rw [e1] at c3
  omega
end
end Go.Proofs.Ytopkfhnnapncgaa.Mt
end
section
namespace Go.Proofs.Ytopkfhnnapncgaa.Mt
def setOf (n : Nat) (p : Nat → Bool) : Nat := (List.range n).foldl (fun o e => if p e then ins o e else o) 0
theorem yV (p : Nat → Bool) (i : Nat) : ∀ (l : List Nat) (o : Nat), (l.foldl (fun o e => if p e then ins o e else o) o).testBit i = (o.testBit i || (decide (i ∈ l) && p i))
  | [], o => by simp
  | a :: l, o => by
    rw [List.foldl_cons, yV p i l]
    by_cases ha : a = i
    · subst ha
      cases hp : p a <;> simp [zX]
    · have : (i = a) = False := eq_false fun h => ha h.symm
      cases hp : p a <;> simp [zX, ha, this]
theorem y5 (n : Nat) (p : Nat → Bool) (i : Nat) : (setOf n p).testBit i = (decide (i < n) && p i) := by
  unfold setOf; rw [yV, jh]; simp
theorem Ve (n : Nat) (p : Nat → Bool) : setOf n p < 2 ^ n := yp fun i hi => by rw [y5] at hi; simp at hi; exact hi.1
theorem y0 {s e n : Nat} (hs : s < 2 ^ n) (he : e < n) : ins s e < 2 ^ n := yp fun i hi => by
  rw [zX] at hi; rcases Bool.or_eq_true_iff.1 hi with hi | hi
  · exact jq hs hi
  · rw [← of_decide_eq_true hi]; exact he
theorem vH {s t e : Nat} (h : sub s t) (he : t.testBit e = true) : sub (ins s e) t := fun i hi => by
  rw [zX] at hi; rcases Bool.or_eq_true_iff.1 hi with hi | hi
  · exact h i hi
  · rw [← of_decide_eq_true hi]; exact he
theorem yN {s t : Nat} (e : Nat) (h : sub s t) : sub (ins s e) (ins t e) := vH (qS h (yb t e)) (Jj t e)
theorem Jg {s e : Nat} (h : s.testBit e = true) : ins (del s e) e = s := ext fun i => by
  rw [zX, qz]; by_cases hi : e = i
  · subst hi; simp [h]
  · simp [hi]

section
variable {n : Nat} {B : List Nat}
/-- What adds nothing to the rank, one by one, adds nothing together. -/
theorem Mat.Yx (M : Mat n B) {s t : Nat} (ht : t < 2 ^ n) (hst : sub s t) (h : ∀ e, t.testBit e = true → rk B (ins s e) = rk B s) : rk B t = rk B s := by
  have ht8 : t < 256 := yR M.size ht
  have hs8 : s < 256 := qx (n := 8) hst ht8
  apply Nat.le_antisymm _ (jC hst)
  obtain ⟨I, hI, _, hIs, hIc⟩ := M.yf hs8 (ZM M.ne) (fun i hi => by rw [jh] at hi; cases hi)
  obtain ⟨J, hJ, hIJ, hJt, hJc⟩ := M.yf ht8 hI (qS hIs hst)
  apply Nat.le_of_not_lt
  intro hlt
  obtain ⟨x, hxJ, hxI⟩ := yX (a := J) (b := I) (by omega)
  have h8 : x < 8 := jq (n := 8) (qx (n := 8) hJt ht8) hxJ
  have h1 : ind B (ins I x) := j5 (vH hIJ hxJ) hJ
  have h2 := (jK M.ne (qx (n := 8) (vH (qS hIJ hJt) (hJt x hxJ)) ht8)).1 h1
  have h3 := vZ h8 hxI
  have h4 : rk B (ins I x) ≤ rk B (ins s x) := jC (yN x hIs)
  have h5 := h x (hJt x hxJ)
  omega
/-- The closure of s. -/
def cl (n : Nat) (B : List Nat) (s : Nat) : Nat := setOf n fun e => decide (rk B (ins s e) = rk B s)
theorem YD (s e : Nat) : (cl n B s).testBit e = (decide (e < n) && decide (rk B (ins s e) = rk B s)) := y5 _ _ _
theorem vw {s e : Nat} : (cl n B s).testBit e = true ↔ e < n ∧ rk B (ins s e) = rk B s := by rw [YD]; simp
theorem Vj (s : Nat) : cl n B s < 2 ^ n := Ve _ _
theorem Qy {s : Nat} (hs : s < 2 ^ n) : sub s (cl n B s) := fun i hi => vw.2 ⟨jq hs hi, by rw [YX hi]⟩
theorem Mat.zas (M : Mat n B) {s : Nat} (hs : s < 2 ^ n) : rk B (cl n B s) = rk B s := M.Yx (Vj s) (Qy hs) fun _ he => (vw.1 he).2
/-- What adds nothing to s adds nothing to more. -/
theorem Mat.QO (M : Mat n B) {s t e : Nat} (ht : t < 2 ^ n) (he : e < n) (hst : sub s t) (h : rk B (ins s e) = rk B s) : rk B (ins t e) = rk B t := by
  have h1 := M.YR (s := ins s e) (t := t) (yR M.size (y0 (qx hst ht) he)) (yR M.size ht)
  have h2 : ins s e ||| t = ins t e := ext fun i => by
    rw [jD, zX, zX]; have := hst i; revert this; cases s.testBit i <;> cases t.testBit i <;> cases decide (e = i) <;> simp
  have h3 : rk B s ≤ rk B (ins s e &&& t) := jC (Yd (yb s e) hst)
  rw [h2] at h1
  have h4 : rk B t ≤ rk B (ins t e) := jC (yb t e)
  omega
theorem Mat.Jk (M : Mat n B) {s t : Nat} (ht : t < 2 ^ n) (hst : sub s t) : sub (cl n B s) (cl n B t) := fun _ hi =>
  vw.2 ⟨(vw.1 hi).1, M.QO ht (vw.1 hi).1 hst (vw.1 hi).2⟩
theorem Mat.zan (M : Mat n B) {s : Nat} (hs : s < 2 ^ n) : cl n B (cl n B s) = cl n B s := by
  refine yQ (fun i hi => ?_) (Qy (Vj s))
  obtain ⟨h1, h2⟩ := vw.1 hi
  refine vw.2 ⟨h1, ?_⟩
  have h3 : rk B (ins s i) ≤ rk B (ins (cl n B s) i) := jC (yN i (Qy hs))
  rw [h2, M.zas hs] at h3
  exact Nat.le_antisymm h3 (jC (yb s i))
theorem Mat.YY (M : Mat n B) {s t : Nat} (ht : t < 2 ^ n) (h : sub s (cl n B t)) : sub (cl n B s) (cl n B t) := by
  have := M.Jk (Vj (n := n) (B := B) t) h; rwa [M.zan ht] at this
/-- A least dependent set. -/
def Q6 (n : Nat) (B : List Nat) (c : Nat) : Prop := c < 2 ^ n ∧ ¬ ind B c ∧ ∀ e, c.testBit e = true → ind B (del c e)
theorem QK {d : Nat} (hd : d < 2 ^ n) (hn : n ≤ 8) (h : ¬ ind B d) : ∃ c, Q6 n B c ∧ sub c d := by
  have key : ∀ k d, d < 2 ^ n → ¬ ind B d → cnt d = k → ∃ c, Q6 n B c ∧ sub c d := by
    intro k
    induction k using Nat.strongRecOn with
    | _ k ih =>
      intro d hd h hk
      by_cases hh : ∀ e, d.testBit e = true → ind B (del d e)
      · exact ⟨d, ⟨hd, h, hh⟩, yO d⟩
      · obtain ⟨e, he⟩ := Classical.not_forall.1 hh
        obtain ⟨he, hne⟩ := Classical.not_imp.1 he
        have := ye (jq (n := 8) (yR hn hd) he) he
        obtain ⟨c, hc, hs⟩ := ih _ (by omega) (del d e) (qx (vG d e) hd) hne rfl
        exact ⟨c, hc, qS hs (vG d e)⟩
  exact key _ d hd h rfl
theorem Mat.Jl (M : Mat n B) {c e : Nat} (hc : Q6 n B c) (he : c.testBit e = true) : (cl n B (del c e)).testBit e = true := by
  refine vw.2 ⟨jq hc.1 he, ?_⟩
  rw [Jg he]
  have hc8 := yR M.size hc.1
  have h1 := (jK M.ne (qx (n := 8) (vG c e) hc8)).1 (hc.2.2 e he)
  have h2 := ye (jq (n := 8) hc8 he) he
  have h3 : rk B c ≠ cnt c := fun h => hc.2.1 ((jK M.ne hc8).2 h)
  have h4 : rk B (del c e) ≤ rk B c := jC (vG c e)
  have h5 : rk B c ≤ cnt c := ZW c
  omega
theorem Mat.Ja (M : Mat n B) {y e : Nat} (hy : y < 2 ^ n) (hye : y.testBit e = false) (he : (cl n B y).testBit e = true) : ∃ c, Q6 n B c ∧ c.testBit e = true ∧ sub c (ins y e) := by
  obtain ⟨h1, h2⟩ := vw.1 he
  have hy8 := yR M.size hy
  obtain ⟨I, hI, _, hIs, hIc⟩ := M.yf hy8 (ZM M.ne) (fun i hi => by rw [jh] at hi; cases hi)
  have hIe : I.testBit e = false := by
    cases h : I.testBit e
    · rfl
    · rw [hIs e h] at hye; cases hye
  have hIlt : I < 2 ^ n := qx hIs hy
  have hlt := y0 hIlt h1
  have hdep : ¬ ind B (ins I e) := fun h => by
    have h3 := (jK M.ne (yR M.size hlt)).1 h
    have h4 : rk B (ins I e) ≤ rk B (ins y e) := jC (yN e hIs)
    have h5 := vZ (Nat.lt_of_lt_of_le h1 M.size) hIe
    omega
  obtain ⟨c, hc, hs⟩ := QK hlt M.size hdep
  refine ⟨c, hc, ?_, qS hs (yN e hIs)⟩
  cases hce : c.testBit e
  · refine absurd (j5 (fun j hj => ?_) hI) hc.2.1
    have := hs j hj
    rw [zX] at this
    rcases Bool.or_eq_true_iff.1 this with h | h
    · exact h
    · rw [← of_decide_eq_true h, hce] at hj; cases hj
  · rfl
/-- Two circuits with f in common, and e in the first alone: there is one with e, without f, in both. -/
theorem Mat.elim (M : Mat n B) {c d e f : Nat} (hc : Q6 n B c) (hd : Q6 n B d) (_ : c.testBit f = true) (hfd : d.testBit f = true) (hec : c.testBit e = true) (hed : d.testBit e = false) :
    ∃ x, Q6 n B x ∧ x.testBit e = true ∧ sub x (del (c ||| d) f) := by
  have hef : f ≠ e := fun h => by subst h; rw [hfd] at hed; cases hed
  have hcd : c ||| d < 2 ^ n := Nat.or_lt_two_pow hc.1 hd.1
  have hX : del (c ||| d) f < 2 ^ n := qx (vG _ _) hcd
  have hY : del (del (c ||| d) f) e < 2 ^ n := qx (vG _ _) hX
  -- f is in the closure of Y, so all of c is
  have h1 : (cl n B (del (del (c ||| d) f) e)).testBit f = true := by
    refine M.Jk hY (fun i hi => ?_) f (M.Jl hd hfd)
    rw [qz] at hi; simp at hi
    have : e ≠ i := fun h => by subst h; rw [hed] at hi; exact absurd hi.1 (by simp)
    rw [qz, qz, jD, hi.1]; simp [hi.2, this]
  have h2 : sub (del c e) (cl n B (del (del (c ||| d) f) e)) := fun i hi => by
    rw [qz] at hi; simp at hi
    by_cases hif : f = i
    · subst hif; exact h1
    · exact Qy hY i (by rw [qz, qz, jD, hi.1]; simp [hif, hi.2])
  have h3 : (cl n B (del (del (c ||| d) f) e)).testBit e = true := M.YY hY h2 e (M.Jl hc hec)
  obtain ⟨x, hx, hxe, hxs⟩ := M.Ja hY (by simp [qz]) h3
  refine ⟨x, hx, hxe, qS hxs ?_⟩
  rw [Jg (by rw [qz, jD, hec]; simp [hef])]
  exact yO _
theorem Mat.congr {B' : List Nat} (M : Mat n B) (h : ∀ x, x ∈ B' ↔ x ∈ B) : Mat n B' where
  size := M.size
  lt := fun b hb => M.lt b ((h b).1 hb)
  ne := fun he => by
    obtain ⟨c, hc⟩ := List.exists_mem_of_ne_nil B M.ne
    have := (h c).2 hc; rw [he] at this; cases this
  ex := fun a ha b hb e hea heb => by
    obtain ⟨f, h1, h2, h3⟩ := M.ex a ((h a).1 ha) b ((h b).1 hb) e hea heb
    exact ⟨f, h1, h2, (h _).2 h3⟩
end
end Go.Proofs.Ytopkfhnnapncgaa.Mt
end
section
namespace Go.Proofs.Ytopkfhnnapncgaa.Mt
set_option linter.unusedVariables false
section
variable {n : Nat} {B : List Nat}
end
end Go.Proofs.Ytopkfhnnapncgaa.Mt
end
section
namespace Go.Proofs.Ytopkfhnnapncgaa.Mt
set_option linter.unusedVariables false
def qu (p : Int) : Prop := p = 2 ∨ p = 3 ∨ p = 5 ∨ p = 7
theorem qu.pos {p : Int} (h : qu p) : 2 ≤ p ∧ p ≤ 7 := by unfold qu at h; omega
theorem VZ : ∀ p ∈ [2, 3, 5, 7], ∀ a ∈ List.range 7, ∀ b ∈ List.range 7, (a * b) % p = 0 → a % p = 0 ∨ b % p = 0 := by decide
theorem Yc : ∀ p ∈ [2, 3, 5, 7], ∀ a ∈ List.range 7, a % p ≠ 0 → ∃ b ∈ List.range 7, (a * b) % p = 1 := by decide
theorem qu.nat {p : Int} (h : qu p) : ∃ q : Nat, p = (q : Int) ∧ q ∈ [2, 3, 5, 7] := by
  rcases h with rfl | rfl | rfl | rfl
  · exact ⟨2, rfl, by decide⟩
  · exact ⟨3, rfl, by decide⟩
  · exact ⟨5, rfl, by decide⟩
  · exact ⟨7, rfl, by decide⟩
theorem qu.res {p : Int} (h : qu p) (x : Int) : ∃ a : Nat, a ∈ List.range 7 ∧ x % p = (a : Int) ∧ a % p.toNat = a := by
  have hp := h.pos
  have h0 := Int.emod_nonneg x (show p ≠ 0 by omega)
  have h1 := Int.emod_lt_of_pos x (show 0 < p by omega)
  refine ⟨(x % p).toNat, by simp; omega, by omega, Nat.mod_eq_of_lt (by omega)⟩
theorem qu.ZX {p : Int} (h : qu p) {x y : Int} (hxy : p ∣ x * y) : p ∣ x ∨ p ∣ y := by
  obtain ⟨q, rfl, hq⟩ := h.nat
  obtain ⟨a, ha, hxa, _⟩ := h.res x
  obtain ⟨b, hb, hyb, _⟩ := h.res y
  have h1 := Int.emod_eq_zero_of_dvd hxy
  rw [Int.mul_emod, hxa, hyb] at h1
  have h2 : (a * b) % q = 0 := by
    have : ((a * b % q : Nat) : Int) = 0 := by rw [Int.natCast_emod, Int.natCast_mul]; exact h1
    omega
  have key : ∀ {z : Int} {c : Nat}, z % (q : Int) = (c : Int) → c % q = 0 → (q : Int) ∣ z := fun {z c} hz hc => by
    apply Int.dvd_of_emod_eq_zero
    have h3 : (z % (q : Int)) % (q : Int) = z % (q : Int) := Int.emod_emod _ _
    rw [hz] at h3
    have : ((c % q : Nat) : Int) = (c : Int) := by rw [Int.natCast_emod]; exact h3
    rw [hz, ← this, hc]; rfl
  rcases VZ q hq a ha b hb h2 with h3 | h3
  · exact .inl (key hxa h3)
  · exact .inr (key hyb h3)
theorem qu.inv {p : Int} (h : qu p) {x : Int} (hx : ¬ p ∣ x) : ∃ y : Int, p ∣ x * y - 1 := by
  obtain ⟨q, rfl, hq⟩ := h.nat
  obtain ⟨a, ha, hxa, hm⟩ := h.res x
  have h1 : a % q ≠ 0 := fun h0 => hx (by
    apply Int.dvd_of_emod_eq_zero
    rw [Int.toNat_natCast] at hm
    rw [hxa, ← hm, h0]; rfl)
  obtain ⟨b, _, hb⟩ := Yc q hq a ha h1
  refine ⟨(b : Int), ?_⟩
  have h2 : (x * (b : Int)) % (q : Int) = 1 := by
    rw [Int.mul_emod, hxa]
    have : (((a * b) % q : Nat) : Int) = 1 := by rw [hb]; rfl
    rw [Int.natCast_emod, Int.natCast_mul, Int.mul_emod] at this
    have hqq : (a : Int) % (q : Int) = (a : Int) := by
      have : ((a % q : Nat) : Int) = (a : Int) := by rw [Int.toNat_natCast] at hm; rw [hm]
      rwa [Int.natCast_emod] at this
    rw [hqq] at this; exact this
  have h3 := Int.emod_add_mul_ediv (x * (b : Int)) (q : Int)
  rw [h2] at h3
  exact ⟨x * (b : Int) / (q : Int), by omega⟩

def dot (n : Nat) (u v : Nat → Int) : Int := ((List.range n).map fun j => u j * v j).sum
theorem y8 {α : Type} (f g : α → Int) : ∀ l : List α, (l.map fun j => f j + g j).sum = (l.map f).sum + (l.map g).sum
  | [] => rfl
  | a :: l => by simp only [List.map_cons, List.sum_cons, y8 f g l]; omega
theorem vP {α : Type} (c : Int) (f : α → Int) : ∀ l : List α, (l.map fun j => c * f j).sum = c * (l.map f).sum
  | [] => by simp
  | a :: l => by simp only [List.map_cons, List.sum_cons, vP c f l, Int.mul_add]
theorem jL (n : Nat) (u v w : Nat → Int) (c : Int) : dot n u (fun j => v j + c * w j) = dot n u v + c * dot n u w := by
  unfold dot
  rw [← vP, ← y8]
  congr 1
  apply List.map_congr_left
  intro j _
  rw [Int.mul_add, ← Int.mul_assoc, Int.mul_comm (u j) c, Int.mul_assoc]
theorem jM (n : Nat) (u v : Nat → Int) : dot n u v = dot n v u := by
  unfold dot; congr 1; apply List.map_congr_left; intro j _; exact Int.mul_comm _ _
theorem yE (n : Nat) (u v w : Nat → Int) (c : Int) : dot n (fun j => v j + c * w j) u = dot n v u + c * dot n w u := by
  rw [jM, jL, jM n u v, jM n u w]
theorem yF {p : Int} {α : Type} (f : α → Int) : ∀ l : List α, (∀ j ∈ l, p ∣ f j) → p ∣ (l.map f).sum
  | [], _ => by simp
  | a :: l, h => by
    simp only [List.map_cons, List.sum_cons]
    exact Int.dvd_add (h a (by simp)) (yF f l fun j hj => h j (by simp [hj]))
/-- A sum of which all but one place vanish. -/
theorem Qd {p : Int} (f : Nat → Int) (k : Nat) : ∀ (l : List Nat), l.Nodup → k ∈ l → (∀ j ∈ l, j ≠ k → p ∣ f j) → p ∣ (l.map f).sum - f k
  | [], _, hk, _ => by cases hk
  | a :: l, hn, hk, h => by
    rw [List.nodup_cons] at hn
    simp only [List.map_cons, List.sum_cons]
    by_cases hak : a = k
    · subst hak
      have := yF (p := p) f l fun j hj => h j (by simp [hj]) fun e => hn.1 (e ▸ hj)
      rwa [show f a + (l.map f).sum - f a = (l.map f).sum by omega]
    · have hkl : k ∈ l := by rcases List.mem_cons.1 hk with h' | h'
                             · exact absurd h'.symm hak
                             · exact h'
      have h1 := Qd f k l hn.2 hkl fun j hj => h j (by simp [hj])
      have h2 := h a (by simp) hak
      rw [show f a + (l.map f).sum - f k = f a + ((l.map f).sum - f k) by omega]
      exact Int.dvd_add h2 h1
theorem Qa {p : Int} {n k : Nat} (hk : k < n) (u v : Nat → Int) (h : ∀ j, j < n → j ≠ k → p ∣ u j * v j) : p ∣ dot n u v - u k * v k :=
  Qd (fun j => u j * v j) k (List.range n) List.nodup_range (List.mem_range.2 hk) fun j hj hjk => h j (List.mem_range.1 hj) hjk
/-- Only the places below n count, and only modulo p. -/
theorem JD {p : Int} {n : Nat} {u v w : Nat → Int} (h : ∀ j, j < n → p ∣ v j - w j) : p ∣ dot n u v - dot n u w := by
  have := yF (p := p) (fun j => u j * (v j - w j)) (List.range n) fun j hj => Int.dvd_mul_of_dvd_right (h j (List.mem_range.1 hj))
  have h2 : dot n u v - dot n u w = ((List.range n).map fun j => u j * (v j - w j)).sum := by
    have h3 := jL n u v w (-1)
    have h4 : (fun j => u j * (v j - w j)) = fun j => u j * (v j + (-1) * w j) := funext fun j => by congr 1; omega
    rw [h4]; show _ = dot n u (fun j => v j + (-1) * w j); rw [h3]; omega
  rw [h2]; exact this

/-- Vectors of n places modulo p that are closed under sums and multiples. -/
structure Sp (p : Int) (n : Nat) (K : (Nat → Int) → Prop) : Prop where
  fld : qu p
  size : n ≤ 8
  zero : K fun _ => 0
  add : ∀ v w c, K v → K w → K fun j => v j + c * w j
  mod : ∀ v w, (∀ j, j < n → p ∣ v j - w j) → K v → K w
/-- Nothing but zero outside of s. -/
def JI (p : Int) (n : Nat) (v : Nat → Int) (s : Nat) : Prop := ∀ j, j < n → s.testBit j = false → p ∣ v j
/-- No vector of K but zero has all that it has in s. -/
def li (p : Int) (n : Nat) (K : (Nat → Int) → Prop) (s : Nat) : Prop := ∀ v, K v → JI p n v s → ∀ j, j < n → p ∣ v j
theorem J6 {p : Int} {n : Nat} {K : (Nat → Int) → Prop} {s t : Nat} (h : sub s t) (k : li p n K t) : li p n K s := fun v hv hs => k v hv fun j hj ht => hs j hj (by
  cases hb : s.testBit j
  · rfl
  · rw [h j hb] at ht; cases ht)
section
variable {p : Int} {n : Nat} {K : (Nat → Int) → Prop}
theorem Sp.smul (S : Sp p n K) {v : Nat → Int} (hv : K v) (c : Int) : K fun j => c * v j := by
  have := S.add _ _ c S.zero hv; exact S.mod _ _ (fun j _ => by show p ∣ 0 + c * v j - c * v j; rw [show 0 + c * v j - c * v j = 0 by omega]; exact Int.dvd_zero p) this
/-- What makes s dependent by e: a vector with 1 at e, and else within s. -/
theorem Sp.vec (S : Sp p n K) {s e : Nat} (he : e < n) (hs : li p n K s) (h : ¬ li p n K (ins s e)) : ∃ v, K v ∧ JI p n v (ins s e) ∧ p ∣ v e - 1 := by
  obtain ⟨v, hv⟩ := Classical.not_forall.1 h
  obtain ⟨hK, hv2⟩ := Classical.not_imp.1 hv
  obtain ⟨hsup, hv3⟩ := Classical.not_imp.1 hv2
  obtain ⟨j, hj⟩ := Classical.not_forall.1 hv3
  obtain ⟨hjn, hjp⟩ := Classical.not_imp.1 hj
  have hve : ¬ p ∣ v e := fun h0 => hjp (hs v hK (fun i hi hsi => by
    by_cases hie : e = i
    · rw [← hie]; exact h0
    · exact hsup i hi (by rw [zX, hsi]; simp [hie])) j hjn)
  obtain ⟨y, hy⟩ := S.fld.inv hve
  refine ⟨fun j => y * v j, S.smul hK y, fun j hj hb => Int.dvd_mul_of_dvd_right (hsup j hj hb), ?_⟩
  show p ∣ y * v e - 1
  rw [Int.mul_comm]; exact hy
theorem Sp.Qn (S : Sp p n K) {s e : Nat} {v : Nat → Int} (he : e < n) (hv : K v) (hs : JI p n v s) (h1 : ¬ p ∣ v e) : ¬ li p n K s := fun h => h1 (h v hv hs e he)
/-- A greatest independent set. -/
def y9 (p : Int) (n : Nat) (K : (Nat → Int) → Prop) (s : Nat) : Prop := s < 2 ^ n ∧ li p n K s ∧ ∀ e, e < n → s.testBit e = false → ¬ li p n K (ins s e)
theorem Sp.yK (S : Sp p n K) {s : Nat} (hs : s < 2 ^ n) (h : li p n K s) : ∃ t, y9 p n K t ∧ sub s t := by
  have key : ∀ k s, s < 2 ^ n → li p n K s → n - cnt s = k → ∃ t, y9 p n K t ∧ sub s t := by
    intro k
    induction k using Nat.strongRecOn with
    | _ k ih =>
      intro s hs h hk
      by_cases hh : ∀ e, e < n → s.testBit e = false → ¬ li p n K (ins s e)
      · exact ⟨s, ⟨hs, h, hh⟩, yO s⟩
      · obtain ⟨e, he⟩ := Classical.not_forall.1 hh
        obtain ⟨he, he2⟩ := Classical.not_imp.1 he
        obtain ⟨hes, hli⟩ := Classical.not_imp.1 he2
        have hli := Classical.not_not.1 hli
        have h1 := vZ (Nat.lt_of_lt_of_le he S.size) hes
        have h2 := j9 (Vl (y0 hs he))
        rw [Vp S.size] at h2
        obtain ⟨t, ht, hst⟩ := ih _ (by omega) (ins s e) (y0 hs he) hli rfl
        exact ⟨t, ht, qS (yb s e) hst⟩
  exact key _ s hs h rfl
theorem VX : li p n K 0 := fun v _ hs j hj => hs j hj (jh j)
/-- A vector is what its places outside of a greatest independent set make it. -/
theorem Sp.expand (S : Sp p n K) {a : Nat} (ha : y9 p n K a) (V : Nat → Nat → Int) (hV : ∀ x, x < n → a.testBit x = false → K (V x) ∧ JI p n (V x) (ins a x) ∧ p ∣ V x x - 1) {u : Nat → Int} (hu : K u) :
    ∀ e, e < n → p ∣ u e - ((List.range n).map fun x => if a.testBit x then 0 else u x * V x e).sum := by
  -- take off, place by place
  have key : ∀ (l : List Nat), l.Nodup → (∀ x ∈ l, x < n) → K (fun e => u e - (l.map fun x => if a.testBit x then 0 else u x * V x e).sum) := by
    intro l
    induction l with
    | nil => intro _ _; exact S.mod _ _ (fun j _ => by simp) hu
    | cons x l ih =>
      intro hn hl
      rw [List.nodup_cons] at hn
      have h1 := ih hn.2 fun y hy => hl y (by simp [hy])
      cases hx : a.testBit x
      · refine S.mod _ _ (fun j _ => ?_) (S.add _ _ (-(u x)) h1 (hV x (hl x (by simp)) hx).1)
        simp only [List.map_cons, List.sum_cons, hx, Bool.false_eq_true, if_false]
        rw [show ∀ a b c : Int, a - b + -(u x) * c - (a - (u x * c + b)) = 0 from by intro a b c; rw [Int.neg_mul]; omega]
        exact Int.dvd_zero p
      · refine S.mod _ _ (fun j _ => ?_) h1
        simp only [List.map_cons, List.sum_cons, hx, if_true]
        rw [show ∀ a b : Int, a - b - (a - (0 + b)) = 0 from by intro a b; omega]
        exact Int.dvd_zero p
  have h1 := key (List.range n) List.nodup_range fun x hx => List.mem_range.1 hx
  refine ha.2.1 _ h1 fun j hj hja => ?_
  -- outside of a only its own place counts
  have h2 := Qd (p := p) (fun x => if a.testBit x then 0 else u x * V x j) j (List.range n) List.nodup_range (List.mem_range.2 hj) fun x hx hxj => by
    show p ∣ if a.testBit x then 0 else u x * V x j
    cases hxa : a.testBit x
    · simp only [Bool.false_eq_true, if_false]
      refine Int.dvd_mul_of_dvd_right ((hV x (List.mem_range.1 hx) hxa).2.1 j hj ?_)
      rw [zX, hja]; simp [hxj]
    · simp
  simp only [hja, Bool.false_eq_true, if_false] at h2
  have h3 := Int.dvd_mul_of_dvd_right (b := u j) (hV j hj hja).2.2
  have h4 := Int.dvd_add h2 h3
  rw [show ∀ s m c : Int, s - c * m + c * (m - 1) = -(c - s) from by intro s m c; rw [Int.mul_sub]; omega] at h4
  exact (Int.dvd_neg).1 h4
/-- Exchange, for greatest independent sets. -/
theorem Sp.ex (S : Sp p n K) {a b e : Nat} (ha : y9 p n K a) (hb : y9 p n K b) (hea : a.testBit e = true) (heb : b.testBit e = false) :
    ∃ f, b.testBit f = true ∧ a.testBit f = false ∧ y9 p n K (ins (del a e) f) := by
  have he := jq ha.1 hea
  -- for each place outside of a its vector
  have hV : ∀ x, ∃ v, (x < n → a.testBit x = false → K v ∧ JI p n v (ins a x) ∧ p ∣ v x - 1) := fun x => by
    by_cases hx : x < n ∧ a.testBit x = false
    · obtain ⟨v, h⟩ := S.vec hx.1 ha.2.1 (ha.2.2 x hx.1 hx.2); exact ⟨v, fun _ _ => h⟩
    · exact ⟨fun _ => 0, fun h1 h2 => absurd ⟨h1, h2⟩ hx⟩
  let V : Nat → Nat → Int := fun x => Classical.choose (hV x)
  have hV' : ∀ x, x < n → a.testBit x = false → K (V x) ∧ JI p n (V x) (ins a x) ∧ p ∣ V x x - 1 := fun x => Classical.choose_spec (hV x)
  obtain ⟨u, hu, hus, hue⟩ := S.vec he hb.2.1 (hb.2.2 e he heb)
  have hex := S.expand ha V hV' hu e he
  -- some place of b has e in its vector
  have hf : ∃ f, f < n ∧ b.testBit f = true ∧ a.testBit f = false ∧ ¬ p ∣ V f e := by
    apply Classical.byContradiction
    intro hn
    have h1 : p ∣ ((List.range n).map fun x => if a.testBit x then 0 else u x * V x e).sum := yF _ _ fun x hx => by
      cases hxa : a.testBit x
      · simp only [Bool.false_eq_true, if_false]
        by_cases hxb : b.testBit x = true
        · refine Int.dvd_mul_of_dvd_right ?_
          exact Classical.byContradiction fun h => hn ⟨x, List.mem_range.1 hx, hxb, hxa, h⟩
        · refine Int.dvd_mul_of_dvd_left (hus x (List.mem_range.1 hx) ?_)
          have hxe : e ≠ x := fun h => by subst h; rw [hea] at hxa; cases hxa
          rw [zX]; simp [hxb, hxe]
      · simp
    have h2 := Int.dvd_add hex h1
    rw [show ∀ a b : Int, a - b + b = a from by intros; omega] at h2
    have h3 := Int.dvd_sub h2 hue
    rw [show ∀ a : Int, a - (a - 1) = 1 from by intros; omega] at h3
    have := S.fld.pos
    have := Int.le_of_dvd (by decide) h3
    omega
  obtain ⟨f, hfn, hfb, hfa, hVe⟩ := hf
  obtain ⟨hVK, hVs, hV1⟩ := hV' f hfn hfa
  have hfe : f ≠ e := fun h => by subst h; rw [hea] at hfa; cases hfa
  have hsub : ∀ i, (ins (del a e) f).testBit i = false → i ≠ e → (ins a f).testBit i = false := fun i hi hie => by
    rw [zX, qz] at hi; rw [zX]
    have := Bool.or_eq_false_iff.1 hi
    simp only [Ne.symm hie, decide_false, Bool.not_false, Bool.and_true] at this
    rw [this.1, this.2]; rfl
  refine ⟨f, hfb, hfa, y0 (qx (vG a e) ha.1) hfn, fun w hw hws => ?_, fun g hg hgs => ?_⟩
  · -- w less w_f times the vector of f lies within a
    have h1 := S.add w (V f) (-(w f)) hw hVK
    have h2 := ha.2.1 _ h1 fun j hj hja => by
      show p ∣ w j + -(w f) * V f j
      by_cases hjf : j = f
      · subst hjf
        have := Int.dvd_mul_of_dvd_right (b := -(w j)) hV1
        rw [show ∀ x y : Int, -x * (y - 1) = x + -x * y from by intro x y; rw [Int.mul_sub]; omega] at this
        exact this
      · have hje : j ≠ e := fun h => by subst h; rw [hea] at hja; cases hja
        refine Int.dvd_add (hws j hj ?_) (Int.dvd_mul_of_dvd_right (hVs j hj ?_))
        · rw [zX, qz, hja]; simp [Ne.symm hjf]
        · rw [zX, hja]; simp [Ne.symm hjf]
    have h3 : p ∣ w f := by
      have h4 := h2 e he
      have h5 : p ∣ w e := hws e he (by rw [zX, qz]; simp [hfe])
      have h6 := Int.dvd_sub h4 h5
      rw [show ∀ x y z : Int, x + -y * z - x = -(y * z) from by intro x y z; rw [Int.neg_mul]; omega] at h6
      rcases S.fld.ZX ((Int.dvd_neg).1 h6) with h | h
      · exact h
      · exact absurd h hVe
    intro j hj
    have h4 := h2 j hj
    have h5 := Int.dvd_mul_of_dvd_left (c := V f j) ((Int.dvd_neg).2 h3)
    have h6 := Int.dvd_sub h4 h5
    rwa [show ∀ x y : Int, x + y - y = x from by intros; omega] at h6
  · by_cases hge : g = e
    · subst hge
      refine fun h => ha.2.2 f hfn hfa (J6 (fun i hi => ?_) h)
      rw [zX] at hi
      rw [zX, zX, qz]
      rcases Bool.or_eq_true_iff.1 hi with hi | hi
      · rw [hi]; cases decide (g = i) <;> simp
      · rw [hi]; simp
    · have hga : a.testBit g = false := by
        rw [zX, qz] at hgs
        have := (Bool.or_eq_false_iff.1 hgs).1
        simpa [Ne.symm hge] using this
      have hgf : f ≠ g := fun h => by subst h; rw [Jj] at hgs; cases hgs
      obtain ⟨hGK, hGs, hG1⟩ := hV' g hg hga
      obtain ⟨y, hy⟩ := S.fld.inv hVe
      refine S.Qn (v := fun j => V g j + -(V g e * y) * V f j) hg (S.add _ _ _ hGK hVK) (fun j hj hjs => ?_) fun h => ?_
      · show p ∣ V g j + -(V g e * y) * V f j
        by_cases hje : j = e
        · subst hje
          have := Int.dvd_mul_of_dvd_right (b := -(V g j)) hy
          rw [show ∀ x y z : Int, -x * (z * y - 1) = x + -(x * y) * z from by intro x y z; rw [Int.mul_sub, Int.neg_mul, Int.neg_mul, Int.neg_mul, Int.mul_assoc x y z, Int.mul_comm z y]; omega] at this
          exact this
        · have hj1 : (ins (del a e) f).testBit j = false := by
            rw [zX] at hjs; exact (Bool.or_eq_false_iff.1 hjs).1
          have hj2 : decide (g = j) = false := by rw [zX] at hjs; exact (Bool.or_eq_false_iff.1 hjs).2
          have hj3 := hsub j hj1 hje
          refine Int.dvd_add (hGs j hj ?_) (Int.dvd_mul_of_dvd_right (hVs j hj hj3))
          rw [zX] at hj3 ⊢
          rw [(Bool.or_eq_false_iff.1 hj3).1, hj2]; rfl
      · have h1 : p ∣ V g g + -(V g e * y) * V f g := h
        have h2 : p ∣ V f g := hVs g hg (by rw [zX, hga]; simp [hgf])
        have h3 := Int.dvd_sub h1 (Int.dvd_mul_of_dvd_right (b := -(V g e * y)) h2)
        rw [show ∀ x y : Int, x + y - y = x from by intros; omega] at h3
        have h4 := Int.dvd_sub h3 hG1
        rw [show ∀ a : Int, a - (a - 1) = 1 from by intros; omega] at h4
        have := S.fld.pos
        have := Int.le_of_dvd (by decide) h4
        omega
/-- The bases of a space: its greatest independent sets, in order. -/
noncomputable def linB (p : Int) (n : Nat) (K : (Nat → Int) → Prop) : List Nat := (List.range (2 ^ n)).filter fun s => @decide _ (Classical.propDecidable (y9 p n K s))
theorem j4 {s : Nat} : s ∈ linB p n K ↔ y9 p n K s := by
  unfold linB; rw [List.mem_filter, List.mem_range]; simp only [decide_eq_true_eq]
  exact ⟨fun h => h.2, fun h => ⟨h.1, h⟩⟩
theorem Sp.mat (S : Sp p n K) : Mat n (linB p n K) where
  size := S.size
  lt := fun b hb => (j4.1 hb).1
  ne := fun h => by
    obtain ⟨t, ht, _⟩ := S.yK (s := 0) (Nat.two_pow_pos n) VX
    have := j4.2 ht; rw [h] at this; cases this
  ex := fun a ha b hb e hea heb => by
    obtain ⟨f, h1, h2, h3⟩ := S.ex (j4.1 ha) (j4.1 hb) hea heb
    exact ⟨f, h1, h2, j4.2 h3⟩
theorem Sp.jK (S : Sp p n K) {s : Nat} (hs : s < 2 ^ n) : ind (linB p n K) s ↔ li p n K s := by
  constructor
  · rintro ⟨b, hb, h⟩; exact J6 h (j4.1 hb).2.1
  · intro h
    obtain ⟨t, ht, hst⟩ := S.yK hs h
    exact ⟨t, j4.2 ht, hst⟩
/-- The rank of s: the size of any part of it that is independent and gives all of it. -/
theorem Sp.rk (S : Sp p n K) {s q : Nat} (hs : s < 2 ^ n) (hq : sub q s) (h : li p n K q) (hall : ∀ e, s.testBit e = true → q.testBit e = false → ¬ li p n K (ins q e)) : rk (linB p n K) s = cnt q := by
  have hq2 : q < 2 ^ n := qx hq hs
  obtain ⟨J, hJ, hqJ, hJs, hJc⟩ := S.mat.yf (yR S.size hs) ((S.jK hq2).2 h) hq
  rw [← hJc]
  have : J = q := yQ (fun i hi => by
    cases hqi : q.testBit i
    · exact absurd ((S.jK (y0 hq2 (jq hs (hJs i hi)))).1 (j5 (vH hqJ hi) hJ)) (hall i (hJs i hi) hqi)
    · rfl) hqJ
  rw [this]

structure Ann (p : Int) (n : Nat) (K K' : (Nat → Int) → Prop) : Prop where
  sp : Sp p n K
  sp' : Sp p n K'
  orth : ∀ v u, K v → K' u → p ∣ dot n u v
  all' : ∀ u, (∀ v, K v → p ∣ dot n u v) → K' u
  all : ∀ v, (∀ u, K' u → p ∣ dot n u v) → K v
theorem Ann.swap {K' : (Nat → Int) → Prop} (A : Ann p n K K') : Ann p n K' K where
  sp := A.sp'
  sp' := A.sp
  orth := fun v u hv hu => by rw [jM]; exact A.orth u v hu hv
  all' := fun u h => A.all u fun v hv => by rw [jM]; exact h v hv
  all := fun v h => A.all' v fun u hu => by rw [jM]; exact h u hu
end
end Go.Proofs.Ytopkfhnnapncgaa.Mt
end
section
namespace Go.Proofs.Ytopkfhnnapncgaa.Mt
set_option linter.unusedVariables false
section
variable {n : Nat} {B : List Nat}
end

theorem yM (s : Nat) : (elems s).length = cnt s := by rw [cnt, List.countP_eq_length_filter]; rfl
end Go.Proofs.Ytopkfhnnapncgaa.Mt
end
section
namespace Go.Proofs.Ytopkfhnnapncgaa.Mt
set_option linter.unusedVariables false
/-- The vectors that R rows send to zero. -/
def Ker (p : Int) (n R : Nat) (a : Nat → Nat → Int) (v : Nat → Int) : Prop := ∀ i, i < R → p ∣ dot n (a i) v
theorem Vm {p : Int} {n R : Nat} (hp : qu p) (hn : n ≤ 8) (a : Nat → Nat → Int) : Sp p n (Ker p n R a) where
  fld := hp
  size := hn
  zero := fun i _ => yF _ _ fun j _ => by simp
  add := fun v w c hv hw i hi => by rw [jL]; exact Int.dvd_add (hv i hi) (Int.dvd_mul_of_dvd_right (hw i hi))
  mod := fun v w h hv i hi => by
    have h1 := JD (u := a i) h
    have h2 := Int.dvd_sub (hv i hi) h1
    rwa [show ∀ x y : Int, x - (x - y) = y from by intros; omega] at h2
theorem qP {n : Nat} {u u' v : Nat → Int} (h : ∀ j, j < n → u j = u' j) : dot n u v = dot n u' v := by
  unfold dot; congr 1; apply List.map_congr_left; intro j hj; rw [h j (List.mem_range.1 hj)]
theorem yH {p : Int} {n : Nat} {u u' v : Nat → Int} (h : ∀ j, j < n → p ∣ u j - u' j) : p ∣ dot n u v - dot n u' v := by
  rw [jM n u, jM n u']; exact JD h
theorem jw {p x y : Int} (h : p ∣ x - y) : p ∣ x ↔ p ∣ y := by
  constructor
  · intro hx; have := Int.dvd_sub hx h; rwa [show x - (x - y) = y by omega] at this
  · intro hy; have := Int.dvd_add hy h; rwa [show y + (x - y) = x by omega] at this
/-- Rows that are made of one another, both ways, modulo p: row t is multiplied by f, and the others take y times themselves and g i times row t. -/
theorem Vk {p : Int} {n R t : Nat} {a b : Nat → Nat → Int} (hp : qu p) (ht : t < R) (f : Int) (hf : ¬ p ∣ f) (y : Nat → Int) (hy : ∀ i, i < R → i ≠ t → ¬ p ∣ y i) (g : Nat → Int)
    (h1 : ∀ j, j < n → p ∣ b t j - f * a t j) (h2 : ∀ i, i < R → i ≠ t → ∀ j, j < n → p ∣ b i j - (y i * a i j + g i * a t j)) (v : Nat → Int) : Ker p n R a v ↔ Ker p n R b v := by
  have e1 : p ∣ dot n (b t) v - f * dot n (a t) v := by
    have h := yH (v := v) h1
    have h3 := yE n v (fun _ => 0) (a t) f
    have h4 : dot n (fun _ => (0 : Int)) v = 0 := by
      unfold dot
      have : (fun j => (0 : Int) * v j) = fun _ => 0 := funext fun j => by omega
      rw [this]
      induction List.range n with
      | nil => rfl
      | cons _ l ih => rw [List.map_cons, List.sum_cons, ih]; rfl
    rw [h4] at h3
    have h5 : dot n (fun j => f * a t j) v = f * dot n (a t) v := by
      have h6 : (fun j => f * a t j) = fun j => (0 : Int) + f * a t j := funext fun j => by omega
      rw [h6, h3]; omega
    rwa [h5] at h
  have e2 : ∀ i, i < R → i ≠ t → p ∣ dot n (b i) v - (y i * dot n (a i) v + g i * dot n (a t) v) := fun i hi hit => by
    have h := yH (v := v) (h2 i hi hit)
    have h3 := yE n v (fun j => y i * a i j) (a t) (g i)
    have h5 : dot n (fun j => y i * a i j) v = y i * dot n (a i) v := by
      unfold dot
      rw [← vP]; congr 1; apply List.map_congr_left; intro j _; rw [Int.mul_assoc]
    rw [h3, h5] at h; exact h
  constructor
  · intro hK i hi
    by_cases hit : i = t
    · subst hit; exact (jw e1).2 (Int.dvd_mul_of_dvd_right (hK i hi))
    · exact (jw (e2 i hi hit)).2 (Int.dvd_add (Int.dvd_mul_of_dvd_right (hK i hi)) (Int.dvd_mul_of_dvd_right (hK t ht)))
  · intro hK
    have ha : p ∣ dot n (a t) v := by
      rcases hp.ZX ((jw e1).1 (hK t ht)) with h | h
      · exact absurd h hf
      · exact h
    intro i hi
    by_cases hit : i = t
    · subst hit; exact ha
    · have h3 := (jw (e2 i hi hit)).1 (hK i hi)
      have h4 := Int.dvd_sub h3 (Int.dvd_mul_of_dvd_right (b := g i) ha)
      rw [show ∀ x y : Int, x + y - y = x from by intros; omega] at h4
      rcases hp.ZX h4 with h | h
      · exact absurd h (hy i hi hit)
      · exact h
/-- Two rows exchanged. -/
theorem J5 {p : Int} {n R t k : Nat} {a b : Nat → Nat → Int} (ht : t < R) (hk : k < R) (h1 : ∀ j, j < n → b t j = a k j) (h2 : ∀ j, j < n → b k j = a t j) (h3 : ∀ i, i < R → i ≠ t → i ≠ k → ∀ j, j < n → b i j = a i j) (v : Nat → Int) : Ker p n R a v ↔ Ker p n R b v := by
  constructor
  · intro h i hi
    by_cases hit : i = t
    · subst hit; rw [qP h1]; exact h k hk
    · by_cases hik : i = k
      · subst hik; rw [qP h2]; exact h t ht
      · rw [qP (h3 i hi hit hik)]; exact h i hi
  · intro h i hi
    by_cases hit : i = t
    · subst hit; rw [← qP h2]; exact h k hk
    · by_cases hik : i = k
      · subst hik; rw [← qP h1]; exact h t ht
      · rw [← qP (h3 i hi hit hik)]; exact h i hi

/-- The set of some places. -/
def bitsOf (P : List Nat) : Nat := setOf 8 P.contains
theorem jG (P : List Nat) (i : Nat) : (bitsOf P).testBit i = (decide (i < 8) && P.contains i) := y5 _ _ _
/-- Rows whose first t have a place each that is not zero there, and zero in all rows below; what is below the first t is zero at all places of s. -/
structure Steps (p : Int) (n R : Nat) (b : Nat → Nat → Int) (s : Nat) (P : List Nat) : Prop where
  len : P.length ≤ R
  nodup : P.Nodup
  mem : ∀ x ∈ P, x < n ∧ s.testBit x = true
  diag : ∀ k (hk : k < P.length), ¬ p ∣ b k P[k]
  below : ∀ k (hk : k < P.length), ∀ i, k < i → i < R → p ∣ b i P[k]
  zero : ∀ i, P.length ≤ i → i < R → ∀ c, c < n → s.testBit c = true → p ∣ b i c
section
variable {p : Int} {n R : Nat} {b : Nat → Nat → Int} {s : Nat} {P : List Nat}
theorem Steps.li (hp : qu p) (hn : n ≤ 8) (h : Steps p n R b s P) : li p n (Ker p n R b) (bitsOf P) := by
  intro v hv hs
  have out : ∀ j, j < n → j ∉ P → p ∣ v j := fun j hj hjP => hs j hj (by rw [jG]; simp [hjP])
  -- from the last place on downwards
  have key : ∀ m k (hk : k < P.length), k + m + 1 = P.length → p ∣ v P[k] := by
    intro m
    induction m using Nat.strongRecOn with
    | _ m ih =>
      intro k hk hm
      have h1 := hv k (Nat.lt_of_lt_of_le hk h.len)
      have hkn := (h.mem P[k] (List.getElem_mem hk)).1
      have h2 := Qa (p := p) hkn (b k) v fun j hj hjk => by
        by_cases hjP : j ∈ P
        · obtain ⟨i, hi, rfl⟩ := List.getElem_of_mem hjP
          rcases Nat.lt_trichotomy i k with hik | hik | hik
          · exact Int.dvd_mul_of_dvd_left (h.below i hi k hik (Nat.lt_of_lt_of_le hk h.len))
          · subst hik; exact absurd rfl hjk
          · exact Int.dvd_mul_of_dvd_right (ih (P.length - i - 1) (by omega) i hi (by omega))
        · exact Int.dvd_mul_of_dvd_right (out j hj hjP)
      have h3 := (jw h2).1 h1
      rcases hp.ZX h3 with h4 | h4
      · exact absurd h4 (h.diag k hk)
      · exact h4
  intro j hj
  by_cases hjP : j ∈ P
  · obtain ⟨i, hi, rfl⟩ := List.getElem_of_mem hjP
    exact key (P.length - i - 1) i hi (by omega)
  · exact out j hj hjP
theorem Steps.Qn (hp : qu p) (hn : n ≤ 8) (h : Steps p n R b s P) {e : Nat} (he : e < n) (hes : s.testBit e = true) (heP : e ∉ P) : ¬ Mt.li p n (Ker p n R b) (ins (bitsOf P) e) := by
  -- a vector with 1 at e that the rows from k on send to zero, k from the last row down
  have key : ∀ m, m ≤ P.length → ∃ v : Nat → Int, v e = 1 ∧ (∀ j, j < n → j ≠ e → (∀ i (hi : i < P.length), P.length - m ≤ i → P[i] ≠ j) → v j = 0) ∧ ∀ i, P.length - m ≤ i → i < R → p ∣ dot n (b i) v := by
    intro m
    induction m with
    | zero =>
      intro _
      refine ⟨fun j => if j = e then 1 else 0, if_pos rfl, fun j _ hje _ => if_neg hje, fun i hi hiR => ?_⟩
      have h2 := Qa (p := p) he (b i) (fun j => if j = e then 1 else 0) fun j hj hje => by
        show p ∣ b i j * (if j = e then 1 else 0)
        rw [if_neg hje]; simp
      rw [jw h2]
      exact Int.dvd_mul_of_dvd_left (h.zero i (by omega) hiR e he hes)
    | succ m ih =>
      intro hm
      obtain ⟨v, hve, hv0, hvK⟩ := ih (by omega)
      have hk : P.length - (m + 1) < P.length := by omega
      obtain ⟨k, hkdef⟩ : ∃ k, k = P.length - (m + 1) := ⟨_, rfl⟩
      have hkP : k < P.length := by omega
      have hkn := (h.mem P[k] (List.getElem_mem hkP)).1
      have hke : P[k] ≠ e := fun hh => heP (hh ▸ List.getElem_mem hkP)
      obtain ⟨z, hz⟩ := hp.inv (h.diag k hkP)
      have hvk : v P[k] = 0 := hv0 P[k] hkn hke fun i hi hik hh => by
        have := (List.getElem_inj h.nodup).1 hh; omega
      -- the unit vector at that place
      let w : Nat → Int := fun j => if j = P[k] then 1 else 0
      have hw : ∀ i, dot n (b i) w = b i P[k] := fun i => by
        have h2 := Qa (p := 0) hkn (b i) w fun j hj hjk => by
          show (0 : Int) ∣ b i j * (if j = P[k] then 1 else 0)
          rw [if_neg hjk]; simp
        have h3 := Int.zero_dvd.1 h2
        have h4 : w P[k] = 1 := if_pos rfl
        rw [h4] at h3; omega
      refine ⟨fun j => v j + -(z * dot n (b k) v) * w j, ?_, fun j hj hje hjP => ?_, fun i hi hiR => ?_⟩
      · show v e + _ * (if e = P[k] then 1 else 0) = 1
        rw [if_neg (Ne.symm hke), hve]; omega
      · show v j + _ * (if j = P[k] then 1 else 0) = 0
        rw [if_neg (fun hh => hjP k hkP (by omega) hh.symm), hv0 j hj hje fun i hi hik => hjP i hi (by omega)]; omega
      · rw [jL, hw]
        by_cases hik : i = k
        · subst hik
          have := Int.dvd_mul_of_dvd_right (b := -(dot n (b i) v)) hz
          rw [show ∀ d c z : Int, -d * (c * z - 1) = d + -(z * d) * c from by intro d c z; rw [Int.mul_sub, Int.neg_mul, Int.neg_mul, Int.neg_mul, Int.mul_comm z d, Int.mul_assoc, Int.mul_comm z c]; omega] at this
          exact this
        · exact Int.dvd_add (hvK i (by omega) hiR) (Int.dvd_mul_of_dvd_right (h.below k hkP i (by omega) hiR))
  obtain ⟨v, hve, hv0, hvK⟩ := key P.length (Nat.le_refl _)
  refine (Vm hp hn b).Qn he (fun i hi => hvK i (by omega) hi) (fun j hj hjs => ?_) (by
    rw [hve]; intro hh; have := hp.pos; have := Int.le_of_dvd (by decide) hh; omega)
  rw [zX, jG] at hjs
  have h1 := Bool.or_eq_false_iff.1 hjs
  have h2 : j ∉ P := fun hh => by
    have := h1.1; simp [hh] at this; omega
  rw [hv0 j hj (fun hh => by rw [hh] at h1; simp at h1) fun i hi _ hh => h2 (hh ▸ List.getElem_mem hi)]
  exact Int.dvd_zero p
theorem Q2 (hn : P.Nodup) (h8 : ∀ x ∈ P, x < 8) : cnt (bitsOf P) = P.length := by
  have h1 : cnt (bitsOf P) = (List.range 8).countP P.contains := by
    unfold cnt; refine List.countP_congr fun i hi => ?_
    rw [jG, decide_eq_true (List.mem_range.1 hi)]; simp
  rw [h1]
  have key : ∀ (l : List Nat), l.Nodup → (∀ x ∈ P, x ∈ l) → l.countP P.contains = P.length := by
    induction P with
    | nil =>
      intro l _ _
      rw [List.length_nil, List.countP_eq_zero]; intro a _; simp
    | cons x P ih =>
      intro l hl hm
      rw [List.nodup_cons] at hn
      have hx : x ∈ l := hm x (by simp)
      obtain ⟨l1, l2, rfl⟩ := List.append_of_mem hx
      have hl' : (l1 ++ l2).Nodup ∧ x ∉ l1 ++ l2 := by
        have : (x :: (l1 ++ l2)).Nodup := (List.perm_middle.nodup_iff).1 hl
        rw [List.nodup_cons] at this; exact ⟨this.2, this.1⟩
      have h2 := ih hn.2 (fun y hy => h8 y (by simp [hy])) (by
        unfold cnt; refine List.countP_congr fun i hi => ?_
        rw [jG, decide_eq_true (List.mem_range.1 hi)]; simp) (l1 ++ l2) hl'.1 fun y hy => by
          have := hm y (by simp [hy])
          rw [List.mem_append, List.mem_cons] at this
          rw [List.mem_append]
          rcases this with h | h | h
          · exact .inl h
          · subst h; exact absurd hy hn.1
          · exact .inr h
      rw [List.countP_append, List.countP_cons] 
      have h3 : ∀ l : List Nat, x ∉ l → l.countP (x :: P).contains = l.countP P.contains := fun l hxl => List.countP_congr fun y hy => by
        have : y ≠ x := fun h => hxl (h ▸ hy)
        simp [this]
      have h4 := hl'.2
      rw [List.mem_append, not_or] at h4
      rw [h3 l1 h4.1, h3 l2 h4.2]
      rw [List.countP_append] at h2
      simp
      omega
  exact key (List.range 8) List.nodup_range fun x hx => List.mem_range.2 (h8 x hx)
/-- The rank that rows in steps tell. -/
theorem Steps.rk (hp : qu p) (hn : n ≤ 8) (hs : s < 2 ^ n) (h : Steps p n R b s P) : rk (linB p n (Ker p n R b)) s = P.length := by
  have h8 : ∀ x ∈ P, x < 8 := fun x hx => Nat.lt_of_lt_of_le (h.mem x hx).1 hn
  rw [← Q2 h.nodup h8]
  refine (Vm hp hn b).rk hs (fun i hi => ?_) (h.li hp hn) fun e he heP => ?_
  · rw [jG] at hi; simp at hi; exact (h.mem i hi.2).2
  · refine h.Qn hp hn (jq hs he) he fun hh => ?_
    rw [jG] at heP; simp [hh, h8 e hh] at heP
end
end Go.Proofs.Ytopkfhnnapncgaa.Mt
end
section
namespace Go.Proofs.Ytopkfhnnapncgaa.L
open Go.Proofs.Ytopkfhnnapncgaa.Mt
set_option linter.unusedSimpArgs false
set_option linter.unusedVariables false
/-- In the midst of an elimination: the columns of s below j are done. -/
structure PS (p : Int) (n R : Nat) (a : Tab) (s j : Nat) (M : Tab) (P : List Nat) : Prop where
  len : P.length ≤ R
  nodup : P.Nodup
  mem : ∀ x ∈ P, x < j ∧ s.testBit x = true
  diag : ∀ k (hk : k < P.length), ¬ p ∣ M k P[k]
  below : ∀ k (hk : k < P.length), ∀ i, k < i → i < R → p ∣ M i P[k]
  zero : ∀ i, P.length ≤ i → i < R → ∀ c, c < j → s.testBit c = true → p ∣ M i c
  ker : ∀ v, Ker p n R a v ↔ Ker p n R M v
section
variable {p : Int} {n R s j : Nat} {a M : Tab} {P : List Nat}
theorem PS.start : PS p n R a s 0 a [] where
  len := Nat.zero_le _
  nodup := List.nodup_nil
  mem := fun x hx => by cases hx
  diag := fun k hk => by cases hk
  below := fun k hk => by cases hk
  zero := fun i _ _ c hc => absurd hc (Nat.not_lt_zero c)
  ker := fun v => Iff.rfl
theorem PS.skip (h : PS p n R a s j M P) (hz : s.testBit j = true → ∀ i, P.length ≤ i → i < R → p ∣ M i j) : PS p n R a s (j + 1) M P :=
  { h with
    mem := fun x hx => ⟨by have := (h.mem x hx).1; omega, (h.mem x hx).2⟩
    zero := fun i h1 h2 c hc hs => by
      rcases Nat.lt_or_ge c j with h3 | h3
      · exact h.zero i h1 h2 c h3 hs
      · obtain rfl : c = j := by omega
        exact hz hs i h1 h2 }
theorem jS (t b : Nat) (M : Tab) (i c : Nat) : zQ (qF t b) M i c = if i = b then M t c else if i = t then M b c else M i c := rfl
theorem PS.swap (h : PS p n R a s j M P) {b : Nat} (h1 : P.length ≤ b) (h2 : b < R) : PS p n R a s j (zQ (qF P.length b) M) P := by
  have hrow : ∀ i c, i < P.length → zQ (qF P.length b) M i c = M i c := fun i c hi => by rw [jS, if_neg (by omega), if_neg (by omega)]
  have hge : ∀ c, (∀ i, P.length ≤ i → i < R → p ∣ M i c) → ∀ i, P.length ≤ i → i < R → p ∣ zQ (qF P.length b) M i c := fun c hc i hi hiR => by
    rw [jS]
    split
    · exact hc _ (Nat.le_refl _) (by omega)
    · split
      · exact hc _ h1 h2
      · exact hc _ hi hiR
  refine { h with diag := fun k hk => by rw [hrow k _ hk]; exact h.diag k hk, below := fun k hk i hki hiR => ?_, zero := fun i hi hiR c hc hs => hge c (fun i hi hiR => h.zero i hi hiR c hc hs) i hi hiR, ker := fun v => (h.ker v).trans ?_ }
  · rcases Nat.lt_or_ge i P.length with h3 | h3
    · rw [hrow i _ h3]; exact h.below k hk i hki hiR
    · exact hge _ (fun i' hi' hiR' => h.below k hk i' (by omega) hiR') i h3 hiR
  · by_cases hb : b = P.length
    · subst hb
      have : zQ (qF P.length P.length) M = M := by
        funext i c; rw [jS]; by_cases e : i = P.length
        · subst e; simp
        · simp [e]
      rw [this]
    · refine J5 (t := P.length) (k := b) (by omega) h2 (fun c _ => ?_) (fun c _ => ?_) (fun i hi hit hib c _ => ?_) v
      · rw [jS, if_neg (Ne.symm hb), if_pos rfl]
      · rw [jS, if_pos rfl]
      · rw [jS, if_neg hib, if_neg hit]
theorem Qq {p x y : Int} (h : p ∣ x - y) (hy : p ∣ y) : p ∣ x := (jw h).2 hy
theorem Zn {p x y : Int} (h : p ∣ x - y) (hy : ¬ p ∣ y) : ¬ p ∣ x := fun hx => hy ((jw h).1 hx)
theorem QS {p x y u v : Int} (hx : p ∣ x) (hy : p ∣ y) : p ∣ u * x + v * y := Int.dvd_add (Int.dvd_mul_of_dvd_right hx) (Int.dvd_mul_of_dvd_right hy)
theorem PS.row (hp : qu p) (h : PS p n R a s j M P) (hj : j < n) (hs : s.testBit j = true) (ht : P.length < R) (hx : ¬ p ∣ M P.length j) {M' : Tab} (f : Int) (hf : ¬ p ∣ f) (y : Nat → Int) (hy : ∀ i, i < R → i ≠ P.length → ¬ p ∣ y i) (g : Nat → Int)
    (h1 : ∀ c, c < n → p ∣ M' P.length c - f * M P.length c) (h2 : ∀ i, i < R → i ≠ P.length → ∀ c, c < n → p ∣ M' i c - (y i * M i c + g i * M P.length c)) (h3 : ∀ i, P.length < i → i < R → p ∣ M' i j) :
    PS p n R a s (j + 1) M' (P ++ [j]) := by
  have hm : ∀ k (hk : k < P.length), P[k] < n := fun k hk => by have := (h.mem _ (List.getElem_mem hk)).1; omega
  have hcol : ∀ c, c < n → ∀ k, (∀ i, k < i → i < R → p ∣ M i c) → ∀ i, k < i → i < R → k < P.length → p ∣ M' i c := fun c hc k hk i hi hiR hkt => by
    by_cases hit : i = P.length
    · subst hit; exact Qq (h1 c hc) (Int.dvd_mul_of_dvd_right (hk _ hi hiR))
    · exact Qq (h2 i hiR hit c hc) (QS (hk i hi hiR) (hk _ hkt ht))
  have hmul : ∀ {x y : Int}, ¬ p ∣ x → ¬ p ∣ y → ¬ p ∣ x * y := fun hx hy hxy => (hp.ZX hxy).elim hx hy
  refine { len := ?_, nodup := ?_, mem := ?_, diag := ?_, below := ?_, zero := ?_, ker := ?_ }
  · rw [List.length_append]; exact ht
  · rw [List.nodup_append]
    refine ⟨h.nodup, List.nodup_cons.2 ⟨by simp, List.nodup_nil⟩, fun x hx y hy => ?_⟩
    rw [List.mem_singleton] at hy
    have := (h.mem x hx).1
    omega
  · intro x hx
    rcases List.mem_append.1 hx with hx | hx
    · exact ⟨by have := (h.mem x hx).1; omega, (h.mem x hx).2⟩
    · rw [List.mem_singleton] at hx; subst hx; exact ⟨by omega, hs⟩
  · intro k hk
    rw [List.length_append, List.length_singleton] at hk
    by_cases c : k < P.length
    · rw [List.getElem_append_left c]
      refine Zn (h2 k (by omega) (by omega) _ (hm k c)) fun hd => ?_
      have h4 : p ∣ g k * M P.length P[k] := Int.dvd_mul_of_dvd_right (h.below k c _ c ht)
      have h5 := Int.dvd_sub hd h4
      rw [Int.add_sub_cancel] at h5
      exact hmul (hy k (by omega) (by omega)) (h.diag k c) h5
    · obtain rfl : k = P.length := by omega
      rw [List.getElem_append_right (Nat.le_refl _)]
      simp only [Nat.sub_self, List.getElem_singleton]
      exact Zn (h1 j hj) (hmul hf hx)
  · intro k hk i hki hiR
    rw [List.length_append, List.length_singleton] at hk
    by_cases c : k < P.length
    · rw [List.getElem_append_left c]
      exact hcol _ (hm k c) k (h.below k c) i hki hiR c
    · obtain rfl : k = P.length := by omega
      rw [List.getElem_append_right (Nat.le_refl _)]
      simp only [Nat.sub_self, List.getElem_singleton]
      exact h3 i hki hiR
  · intro i hi hiR c hc hsc
    rw [List.length_append, List.length_singleton] at hi
    rcases Nat.lt_or_ge c j with h4 | h4
    · exact Qq (h2 i hiR (by omega) c (by omega)) (QS (h.zero i (by omega) hiR c h4 hsc) (h.zero _ (Nat.le_refl _) ht c h4 hsc))
    · obtain rfl : c = j := by omega
      exact h3 i (by omega) hiR
  · intro v
    exact (h.ker v).trans (Vk hp ht f hf y hy g h1 h2 v)
theorem PS.done (h : PS p n R a s n M P) : Mt.Steps p n R M s P :=
  ⟨h.len, h.nodup, h.mem, h.diag, h.below, fun i h1 h2 c hc hs => h.zero i h1 h2 c hc hs⟩
theorem PS.rk (hp : qu p) (hn : n ≤ 8) (hs : s < 2 ^ n) (h : PS p n R a s n M P) : rk (linB p n (Ker p n R a)) s = P.length := by
  rw [show Ker p n R a = Ker p n R M from funext fun v => propext (h.ker v)]
  exact h.done.rk hp hn hs
theorem Zs {x : Int} (h0 : x ≠ 0) (h1 : 0 ≤ x ∧ x < p) : ¬ p ∣ x := fun h => by
  have := Int.le_of_dvd (by omega) h; omega
theorem j6 (x p : Int) : p ∣ Int.tmod x p - x := by
  have := Int.mul_tdiv_add_tmod x p
  exact ⟨-(x.tdiv p), by rw [Int.mul_neg]; omega⟩
end
theorem Zb (p : Int) (t col : Nat) (M : Tab) : ∀ m, (List.range m).foldl (qD p t col) M = fun i c => if i < m ∧ i ≠ t then Int.tmod (M i c + (p - M i col) * M t c) p else M i c
  | 0 => by funext i c; simp
  | m + 1 => by
    rw [List.range_succ, List.foldl_append, Zb p t col M m]
    funext i c
    show qD p t col _ m i c = _
    unfold qD
    by_cases h1 : m = t
    · subst h1
      rw [if_pos rfl]
      by_cases h2 : i < m ∧ i ≠ m
      · rw [if_pos h2, if_pos ⟨by omega, h2.2⟩]
      · rw [if_neg h2, if_neg (by omega)]
    · rw [if_neg h1]
      show (Ze p t m _ (fun i => _) i) = _
      unfold Ze
      by_cases h2 : i = m
      · subst h2
        simp [h1]
      · rw [if_neg h2]
        show (if i < m ∧ i ≠ t then Int.tmod (M i c + (p - M i col) * M t c) p else M i c) = _
        by_cases h3 : i < m ∧ i ≠ t
        · rw [if_pos h3, if_pos ⟨by omega, h3.2⟩]
        · rw [if_neg h3, if_neg (by omega)]
theorem yx (p : Int) (R t col : Nat) (M : Tab) (i c : Nat) (hi : i < R) : jZ p R t col M i c =
    if i = t then Int.tmod (M t c * jy p (M t col)) p else Int.tmod (M i c + (p - M i col) * Int.tmod (M t c * jy p (M t col)) p) p := by
  unfold jZ vJ
  rw [Zb]
  by_cases h : i = t
  · subst h; simp [zQ, jV]
  · simp [hi, h, zQ, jV]
theorem V4 : ∀ p ∈ [2, 3, 5, 7], ∀ a ∈ List.range 7, 1 ≤ a → a < p → (p : Int) ∣ (a : Int) * jy p a - 1 := by decide
theorem Vb {p a : Int} (hp : qu p) (ha : 1 ≤ a) (hap : a < p) : p ∣ a * jy p a - 1 := by
  obtain ⟨q, rfl, hq⟩ := hp.nat
  obtain ⟨b, rfl⟩ := Int.eq_ofNat_of_zero_le (show 0 ≤ a by omega)
  have hq7 : q ≤ 7 := by simp at hq; omega
  exact V4 q hq b (List.mem_range.2 (by omega)) (by omega) (by omega)
section
variable {p : Int} {n R s j : Nat} {a M : Tab} {P : List Nat}
theorem PS.pivot (hp : qu p) (h : PS p n R a s j M P) (hj : j < n) (hs : s.testBit j = true) (ht : P.length < R) (hM : InF p R n M) (hx : M P.length j ≠ 0) : PS p n R a s (j + 1) (jZ p R P.length j M) (P ++ [j]) := by
  have hv := hM _ j ht hj
  have hinv := Vb hp (show 1 ≤ M P.length j by omega) hv.2
  have hpp := hp.pos
  have hf : ¬ p ∣ jy p (M P.length j) := fun hd => by
    have h1 : p ∣ M P.length j * jy p (M P.length j) := Int.dvd_mul_of_dvd_right hd
    have h2 := Int.dvd_sub h1 hinv
    rw [show ∀ x : Int, x - (x - 1) = 1 from by intro x; omega] at h2
    have := Int.le_of_dvd (by omega) h2
    omega
  refine h.row hp hj hs ht (Zs hx hv) (jy p (M P.length j)) hf (fun _ => 1) (fun i _ _ hd => by have := Int.le_of_dvd (by omega) hd; omega) (fun i => (p - M i j) * jy p (M P.length j)) (fun c hc => ?_) (fun i hi hit c hc => ?_) (fun i hti hi => ?_)
  · rw [yx _ _ _ _ _ _ _ ht, if_pos rfl, Int.mul_comm]; exact j6 _ _
  · rw [yx _ _ _ _ _ _ _ hi, if_neg hit]
    have h1 := j6 (M i c + (p - M i j) * Int.tmod (M P.length c * jy p (M P.length j)) p) p
    have h2 : p ∣ (p - M i j) * (Int.tmod (M P.length c * jy p (M P.length j)) p - M P.length c * jy p (M P.length j)) := Int.dvd_mul_of_dvd_right (j6 _ _)
    have h3 := Int.dvd_add h1 h2
    refine (show ∀ x y : Int, x = y → p ∣ x → p ∣ y from fun x y e h => e ▸ h) _ _ ?_ h3
    rw [Int.mul_sub, Int.mul_assoc, Int.mul_comm (jy p (M P.length j)) (M P.length c)]
    omega
  · rw [yx _ _ _ _ _ _ _ hi, if_neg (by omega)]
    refine Qq (j6 _ _) ?_
    have h2 : p ∣ (p - M i j) * (Int.tmod (M P.length j * jy p (M P.length j)) p - M P.length j * jy p (M P.length j)) := Int.dvd_mul_of_dvd_right (j6 _ _)
    have h4 : p ∣ (p - M i j) * (M P.length j * jy p (M P.length j) - 1) := Int.dvd_mul_of_dvd_right hinv
    have h5 := Int.dvd_add (Int.dvd_add h2 h4) (Int.dvd_refl p)
    refine (show ∀ x y : Int, x = y → p ∣ x → p ∣ y from fun x y e h => e ▸ h) _ _ ?_ h5
    rw [Int.mul_sub, Int.mul_sub, Int.mul_one]
    omega
/-- One column of s, taken up by impl.reduce's step. -/
theorem PS.red (hp : qu p) {st : Red} (h : PS p n R a s j st.M P) (ht : P.length = st.t) (hj : j < n) (hs : s.testBit j = true) (hM : InF p R n st.M) :
    ∃ P', P'.length = (z8 p R st j).t ∧ PS p n R a s (j + 1) (z8 p R st j).M P' ∧ (z8 p R st j).M = (z8 p R st j).M := by
  obtain ⟨h1, h2, h3, h4⟩ := q4 st.M R j (R - st.t) st.t (by have := h.len; omega)
  by_cases c : zH st.M R st.t j < R
  · have he : z8 p R st j = ⟨st.t + 1, jZ p R st.t j (zQ (qF st.t (zH st.M R st.t j)) st.M), st.ps ++ [(j : Int)]⟩ := by unfold z8; rw [if_pos c]
    rw [he]
    rw [← ht] at h1 ⊢
    rw [← ht] at c h3
    have hsw := h.swap (b := zH st.M R P.length j) h1 c
    refine ⟨P ++ [j], by rw [List.length_append]; rfl, hsw.pivot hp hj hs (by omega) (hM.swap (by omega) c) ?_, rfl⟩
    rw [jS]
    by_cases c2 : P.length = zH st.M R P.length j
    · rw [if_pos c2]; rw [← c2] at h3; exact h3 (by omega)
    · rw [if_neg c2, if_pos rfl]; exact h3 c
  · have he : z8 p R st j = st := by unfold z8; rw [if_neg c]
    rw [he]
    exact ⟨P, ht, h.skip fun _ i hi hiR => by rw [h4 i (by omega) (by omega)]; exact Int.dvd_zero p, rfl⟩
end
def QB (p : Int) (t i0 : Nat) (x y : Int) (f : Nat → Int) (i : Nat) : Int := if i = i0 then Int.tmod (Int.tmod (f i0 * y - f t * x) p + p) p else f i
def jz (p : Int) (t col : Nat) (M : Tab) (i : Nat) : Tab := zQ (QB p t i (M i col) (M t col)) M
def vK (p : Int) (t col R : Nat) (M : Tab) : Tab := (List.range' (t + 1) (R - (t + 1))).foldl (jz p t col) M
def jQ (p : Int) (R : Nat) (st : Nat × Tab) (j : Nat) : Nat × Tab :=
  if zH st.2 R st.1 j < R then (st.1 + 1, vK p st.1 j R (zQ (qF (zH st.2 R st.1 j) st.1) st.2)) else st
theorem Q8 (a b : Nat) : qF a b = qF b a := by
  funext f i
  unfold qF
  by_cases h1 : i = a
  · by_cases h2 : i = b
    · subst h1; subst h2; rfl
    · simp [h1, h2]
      intro h; rw [h]
  · by_cases h2 : i = b
    · simp [h1, h2]
      intro h; rw [h]
    · simp [h1, h2]
theorem ZI (p : Int) (t col : Nat) (M : Tab) : ∀ m, (List.range' (t + 1) m).foldl (jz p t col) M = fun i c => if t < i ∧ i < t + 1 + m then Int.tmod (Int.tmod (M i c * M t col - M t c * M i col) p + p) p else M i c
  | 0 => by
    funext i c
    rw [if_neg (by omega)]; rfl
  | m + 1 => by
    rw [List.range'_concat, List.foldl_append, ZI p t col M m, List.foldl_cons, List.foldl_nil]
    funext i c
    unfold jz zQ
    unfold QB
    by_cases h2 : i = t + 1 + 1 * m
    · subst h2
      have e1 : ¬ (t < t + 1 + 1 * m ∧ t + 1 + 1 * m < t + 1 + m) := by omega
      have e2 : ¬ (t < t ∧ t < t + 1 + m) := by omega
      have e3 : t < t + 1 + 1 * m ∧ t + 1 + 1 * m < t + 1 + (m + 1) := by omega
      simp only [if_neg e1, if_neg e2, if_pos e3, if_true]
    · rw [if_neg h2]
      show (if t < i ∧ i < t + 1 + m then Int.tmod (Int.tmod (M i c * M t col - M t c * M i col) p + p) p else M i c) = _
      by_cases h3 : t < i ∧ i < t + 1 + m
      · rw [if_pos h3, if_pos ⟨by omega, by omega⟩]
      · rw [if_neg h3, if_neg (by omega)]
theorem yv (p : Int) {t R : Nat} (col : Nat) (M : Tab) (ht : t < R) (i c : Nat) : vK p t col R M i c = if t < i ∧ i < R then Int.tmod (Int.tmod (M i c * M t col - M t c * M i col) p + p) p else M i c := by
  unfold vK
  rw [ZI, show t + 1 + (R - (t + 1)) = R by omega]
theorem JA (v : Int) {p : Int} (hp : 0 < p) : -p < Int.tmod v p := by
  have := Int.tmod_lt_of_pos (-v) hp
  rw [Int.neg_tmod] at this
  omega
theorem VM (v : Int) {p : Int} (hp : 2 ≤ p) : 0 ≤ Int.tmod (Int.tmod v p + p) p ∧ Int.tmod (Int.tmod v p + p) p < p := by
  have := JA v (show 0 < p by omega)
  exact Qf (by omega) hp
theorem JC (v p : Int) : p ∣ Int.tmod (Int.tmod v p + p) p - v := by
  have h1 := j6 (Int.tmod v p + p) p
  have h2 := j6 v p
  have h3 := Int.dvd_add (Int.dvd_add h1 h2) (Int.dvd_refl p)
  refine (show ∀ x y : Int, x = y → p ∣ x → p ∣ y from fun x y e h => e ▸ h) _ _ ?_ h3
  omega
section
variable {p : Int} {n R s j : Nat} {a M : Tab} {P : List Nat}
theorem InF.jz (h : InF p R n M) (hp : 2 ≤ p) {t col i : Nat} : InF p R n (jz p t col M i) := fun i' c hi hc => by
  unfold L.jz zQ QB
  split
  · exact VM _ hp
  · exact h i' c hi hc
theorem InF.Jy (hp : 2 ≤ p) {t col : Nat} : ∀ (l : List Nat) {M : Tab}, InF p R n M → InF p R n (l.foldl (L.jz p t col) M)
  | [], _, h => h
  | i :: l, _, h => InF.Jy hp l (h.jz hp)
theorem InF.vK (h : InF p R n M) (hp : 2 ≤ p) {t col : Nat} : InF p R n (vK p t col R M) := InF.Jy hp _ h
theorem PS.fwd (hp : qu p) (h : PS p n R a s j M P) (hj : j < n) (hs : s.testBit j = true) (ht : P.length < R) (hM : InF p R n M) (hx : M P.length j ≠ 0) : PS p n R a s (j + 1) (vK p P.length j R M) (P ++ [j]) := by
  have hv := hM _ j ht hj
  have hpp := hp.pos
  have h1p : ¬ p ∣ 1 := fun hd => by have := Int.le_of_dvd (by omega) hd; omega
  have hd := Zs hx hv
  refine h.row hp hj hs ht hd 1 h1p (fun i => if P.length < i then M P.length j else 1) (fun i _ _ => by show ¬ p ∣ if _ then _ else _; split <;> assumption) (fun i => if P.length < i then - M i j else 0) (fun c hc => ?_) (fun i hi hit c hc => ?_) (fun i hti hi => ?_)
  · rw [yv _ _ _ ht, if_neg (by omega), Int.one_mul, Int.sub_self]; exact Int.dvd_zero p
  · rw [yv _ _ _ ht]
    by_cases c1 : P.length < i
    · rw [if_pos (show P.length < i ∧ i < R from ⟨c1, hi⟩)]
      simp only [c1, if_true]
      have h2 := JC (M i c * M P.length j - M P.length c * M i j) p
      refine (show ∀ x y : Int, x = y → p ∣ x → p ∣ y from fun x y e h => e ▸ h) _ _ ?_ h2
      rw [Int.neg_mul, Int.mul_comm (M i c), Int.mul_comm (M P.length c)]
      omega
    · rw [if_neg (show ¬ (P.length < i ∧ i < R) by omega)]
      simp only [c1, if_false]
      rw [Int.one_mul, Int.zero_mul, Int.add_zero, Int.sub_self]
      exact Int.dvd_zero p
  · rw [yv _ _ _ ht, if_pos (show P.length < i ∧ i < R from ⟨hti, hi⟩)]
    have h2 := JC (M i j * M P.length j - M P.length j * M i j) p
    rw [Int.mul_comm (M i j), Int.sub_self, Int.sub_zero] at h2
    rwa [Int.mul_comm (M i j), Int.sub_self]
/-- One column of s, taken up by spec.l4Rank's step. -/
theorem PS.jQ (hp : qu p) {st : Nat × Tab} (h : PS p n R a s j st.2 P) (ht : P.length = st.1) (hj : j < n) (hs : s.testBit j = true) (hM : InF p R n st.2) :
    ∃ P', P'.length = (L.jQ p R st j).1 ∧ PS p n R a s (j + 1) (L.jQ p R st j).2 P' ∧ InF p R n (L.jQ p R st j).2 := by
  obtain ⟨h1, h2, h3, h4⟩ := q4 st.2 R j (R - st.1) st.1 (by have := h.len; omega)
  by_cases c : zH st.2 R st.1 j < R
  · have he : L.jQ p R st j = (st.1 + 1, vK p st.1 j R (zQ (qF (zH st.2 R st.1 j) st.1) st.2)) := by unfold L.jQ; rw [if_pos c]
    rw [he, Q8]
    rw [← ht] at h1 ⊢
    rw [← ht] at c h3
    have hsw := h.swap (b := zH st.2 R P.length j) h1 c
    have hin := hM.swap (a := P.length) (b := zH st.2 R P.length j) (by omega) c
    refine ⟨P ++ [j], by rw [List.length_append]; rfl, hsw.fwd hp hj hs (by omega) hin ?_, hin.vK hp.pos.1⟩
    rw [jS]
    by_cases c2 : P.length = zH st.2 R P.length j
    · rw [if_pos c2]; rw [← c2] at h3; exact h3 (by omega)
    · rw [if_neg c2, if_pos rfl]; exact h3 c
  · have he : L.jQ p R st j = st := by unfold L.jQ; rw [if_neg c]
    rw [he]
    exact ⟨P, ht, h.skip fun _ i hi hiR => by rw [h4 i (by omega) (by omega)]; exact Int.dvd_zero p, hM⟩
def vt (p : Int) (R s : Nat) (M : Tab) (n : Nat) : Nat × Tab := (List.range n).foldl (fun st j => if s.testBit j = true then L.jQ p R st j else st) (0, M)
def jH (p : Int) (R s : Nat) (M : Tab) (n : Nat) : Red := (List.range n).foldl (fun st j => if s.testBit j = true then z8 p R st j else st) ⟨0, M, []⟩
theorem ZT (hp : qu p) (hM : InF p R n M) : ∀ m, m ≤ n → ∃ P, P.length = (vt p R s M m).1 ∧ PS p n R M s m (vt p R s M m).2 P ∧ InF p R n (vt p R s M m).2
  | 0, _ => ⟨[], rfl, PS.start, hM⟩
  | m + 1, hm => by
    obtain ⟨P, h1, h2, h3⟩ := ZT hp hM m (by omega)
    have e : vt p R s M (m + 1) = if s.testBit m = true then L.jQ p R (vt p R s M m) m else vt p R s M m := by unfold vt; rw [List.range_succ, List.foldl_append]; rfl
    rw [e]
    by_cases c : s.testBit m = true
    · rw [if_pos c]; exact h2.jQ hp h1 (by omega) c h3
    · rw [if_neg c]; exact ⟨P, h1, h2.skip fun h => absurd h c, h3⟩
theorem Z6 (hp : qu p) (hM : InF p R n M) : ∀ m, m ≤ n → ∃ P, P.length = (jH p R s M m).t ∧ PS p n R M s m (jH p R s M m).M P ∧ InF p R n (jH p R s M m).M
  | 0, _ => ⟨[], rfl, PS.start, hM⟩
  | m + 1, hm => by
    obtain ⟨P, h1, h2, h3⟩ := Z6 hp hM m (by omega)
    have e : jH p R s M (m + 1) = if s.testBit m = true then z8 p R (jH p R s M m) m else jH p R s M m := by unfold jH; rw [List.range_succ, List.foldl_append]; rfl
    rw [e]
    by_cases c : s.testBit m = true
    · rw [if_pos c]
      obtain ⟨P', g1, g2, _⟩ := h2.red hp h1 (by omega) c h3
      refine ⟨P', g1, g2, ?_⟩
      unfold z8
      split
      · rename_i hlt
        have hle := h2.len
        obtain ⟨f1, _, _, _⟩ := q4 (jH p R s M m).M R m (R - (jH p R s M m).t) (jH p R s M m).t (by omega)
        exact (h3.swap (by omega) hlt).pivot hp.pos.1 (by omega) (by omega)
      · exact h3
    · rw [if_neg c]; exact ⟨P, h1, h2.skip fun h => absurd h c, h3⟩
/-- Both count the rank of the columns of s. -/
theorem Y3 (hp : qu p) (hn : n ≤ 8) (hs : s < 2 ^ n) (hM : InF p R n M) : (vt p R s M n).1 = rk (linB p n (Ker p n R M)) s := by
  obtain ⟨P, h1, h2, _⟩ := ZT (s := s) hp hM n (Nat.le_refl n)
  rw [h2.rk hp hn hs, h1]
theorem Yu (hp : qu p) (hn : n ≤ 8) (hs : s < 2 ^ n) (hM : InF p R n M) : (jH p R s M n).t = rk (linB p n (Ker p n R M)) s := by
  obtain ⟨P, h1, h2, _⟩ := Z6 (s := s) hp hM n (Nat.le_refl n)
  rw [h2.rk hp hn hs, h1]
end
def jA (es : List Nat) (M : Tab) : Tab := fun i q => M i (es.getD q 0)
theorem ZE (es : List Nat) (p : Int) (t q : Nat) : ∀ (l : List Nat) (X : Tab), l.foldl (qD p t q) (jA es X) = jA es (l.foldl (qD p t (es.getD q 0)) X)
  | [], _ => rfl
  | i :: l, X => by
    rw [List.foldl_cons, List.foldl_cons, ← ZE es p t q l]
    congr 1
    unfold qD
    split
    · rfl
    · rfl
theorem Jc (es : List Nat) (p : Int) (R q : Nat) (A B : Red) (h1 : A.t = B.t) (h2 : A.M = jA es B.M) : (z8 p R A q).t = (z8 p R B (es.getD q 0)).t ∧ (z8 p R A q).M = jA es (z8 p R B (es.getD q 0)).M := by
  obtain ⟨ta, Ma, pa⟩ := A
  obtain ⟨tb, Mb, pb⟩ := B
  simp only at h1 h2
  subst h1
  subst h2
  have hf : zH (jA es Mb) R ta q = zH Mb R ta (es.getD q 0) := rfl
  unfold z8
  simp only [hf]
  split
  · refine ⟨rfl, ?_⟩
    show jZ p R ta q (jA es (zQ (qF ta (zH Mb R ta (es.getD q 0))) Mb)) = jA es (jZ p R ta (es.getD q 0) (zQ (qF ta (zH Mb R ta (es.getD q 0))) Mb))
    generalize zQ (qF ta (zH Mb R ta (es.getD q 0))) Mb = X
    exact ZE es p ta q (List.range R) (zQ (jV p ta (jy p (X ta (es.getD q 0)))) X)
  · exact ⟨rfl, rfl⟩
theorem ZV (es : List Nat) (p : Int) (R : Nat) (M : Tab) : ∀ m, m ≤ es.length → ((List.range m).foldl (z8 p R) ⟨0, jA es M, []⟩).t = ((es.take m).foldl (z8 p R) ⟨0, M, []⟩).t ∧ ((List.range m).foldl (z8 p R) ⟨0, jA es M, []⟩).M = jA es ((es.take m).foldl (z8 p R) ⟨0, M, []⟩).M
  | 0, _ => ⟨rfl, rfl⟩
  | m + 1, hm => by
    obtain ⟨h1, h2⟩ := ZV es p R M m (by omega)
    rw [List.range_succ, List.foldl_append, List.take_succ_eq_append_getElem (show m < es.length by omega), List.foldl_append]
    have hg : es.getD m 0 = es[m] := by simp [List.getD_eq_getElem?_getD, show m < es.length by omega]
    have := Jc es p R m _ _ h1 h2
    rw [hg] at this
    exact this
theorem JS (p : Int) (R s n : Nat) (M : Tab) : (vS p R ((List.range n).filter s.testBit).length (jA ((List.range n).filter s.testBit) M)).t = (jH p R s M n).t := by
  unfold vS jH
  rw [(ZV _ p R M _ (Nat.le_refl _)).1, List.take_length, List.foldl_filter]
end Go.Proofs.Ytopkfhnnapncgaa.L
end
section
namespace Go.Proofs.Ytopkfhnnapncgaa.L
open Go.RowKit Go.Proofs.Ytopkfhnnapncgaa.F Go.Proofs.YtopkfhnnapncgaaW.PrintWords Go.Proofs.YtopkfhnnapncgaaW.PrintLast Go.Proofs.YtopkfhnnapncgaaW.PrintMore
open Go.Proofs.Ytopkfhnnapncgaa.Bits
set_option linter.unusedSimpArgs false
set_option linter.unusedVariables false
theorem Y6 (a e : Nat) (ha : a < 256) (he : e ≤ 64) : jn.f (a : Int) (e : Int) = some (a.testBit e) := by
  unfold jn.f; rw [QU (by omega) (by omega), if_pos (by omega), Jz _ _ (by omega) (by omega)]
theorem V9 (M : Tab) (p : Int) (t i0 j : Nat) (x y : Int) : upd M i0 j (Int.tmod (Int.tmod (M i0 j * y - M t j * x) p + p) p) = qJ (QB p t i0 x y) M j := by
  funext i c
  unfold upd qJ QB
  by_cases h1 : c = j
  · subst h1
    by_cases h2 : i = i0
    · subst h2; simp
    · simp [h2]
  · simp [h1]
theorem Vh {a b x y p : Int} (hp : 2 ≤ p ∧ p ≤ 7) (ha : 0 ≤ a ∧ a < p) (hb : 0 ≤ b ∧ b < p) (hx : 0 ≤ x ∧ x < p) (hy : 0 ≤ y ∧ y < p) :
    wrap64 (Int.tmod (wrap64 (wrap64 (a * y) - wrap64 (b * x))) p + p) = Int.tmod (a * y - b * x) p + p := by
  rw [wrap_mul (x := a) (y := y) ⟨ha.1, by omega⟩ ⟨hy.1, by omega⟩, wrap_mul (x := b) (y := x) ⟨hb.1, by omega⟩ ⟨hx.1, by omega⟩]
  have h1 := vx (x := a) (y := y) ⟨ha.1, by omega⟩ ⟨hy.1, by omega⟩
  have h2 := vx (x := b) (y := x) ⟨hb.1, by omega⟩ ⟨hx.1, by omega⟩
  rw [show wrap64 (a * y - b * x) = a * y - b * x from qN (by omega) (by omega)]
  have h3 := JA (a * y - b * x) (show 0 < p by omega)
  have h4 := Int.tmod_lt_of_pos (a * y - b * x) (show 0 < p by omega)
  exact qN (by omega) (by omega)
section
variable {p : Int} {R C : Nat} (hR : R ≤ 8) (hC : C ≤ 8) (hf : isField p = true)
include hR hC
theorem VA {t j s : Nat} (hj : j < C) (M : Tab) (r : Int) (h : Ev (fun k => ze.j2 k p R C s (zT M R C) t j (zH M R t j : Nat)) r) :
    ∀ d a, a + d = R → zH M R a j = zH M R t j → Ev (fun k => ze.l1 k p R C s (zT M R C) t j (a : Nat)) r
  | 0, a, ha, he => by
    obtain rfl : a = R := by omega
    rw [vT] at he
    rw [← he] at h
    refine Ev.succ ?_
    simp only [ze.l1, show ¬ ((a : Int) < (a : Int)) by omega, if_false]
    exact h
  | d + 1, a, ha, he => by
    have hlt : a < R := by omega
    have h1 := vo hlt hj
    rw [yq hlt] at he
    refine Ev.succ ?_
    simp only [ze.l1, show ((a : Int) < (R : Int)) by omega, if_true, jf (show a ≤ 8 by omega) hC (show j ≤ 8 by omega), qv, jb, je M hlt hj, show (0 : Int) ≤ ((a * C + j : Nat) : Int) by omega, show ((a * C + j : Nat) : Int) < ((R * C : Nat) : Int) by omega, zY (show a < 9223372036854775807 by omega)]
    by_cases c : M a j = 0
    · rw [if_pos c] at he
      simp only [c, if_true]
      exact VA hj M r h d (a + 1) (by omega) he
    · rw [if_neg c] at he
      simp only [c, if_false]
      rw [← he] at h
      exact h
include hf
theorem VH {s : Nat} (hs : s < 256) : ∀ d j (st : Nat × Tab), j + d = C → st.1 ≤ R → InF p R C st.2 →
    Ev (fun k => ze.l0 k p R C s (zT st.2 R C) (st.1 : Nat) (j : Nat)) (((List.range' j d).foldl (fun st j => if s.testBit j = true then jQ p R st j else st) st).1 : Int) := by
  have hp := jc hf
  intro d
  induction d with
  | zero =>
    intro j st hj ht hM
    obtain rfl : j = C := by omega
    refine Ev.succ ?_
    simp only [ze.l0, show ¬ ((j : Int) < (j : Int)) by omega, if_false]
    exact Ev.now _
  | succ d ih =>
    intro j st hj ht hM
    have hjC : j < C := by omega
    refine Ev.succ ?_
    simp only [ze.l0, show ((j : Int) < (C : Int)) by omega, if_true, Y6 s j hs (by omega), Option.bind_some, zY (show j < 9223372036854775807 by omega)]
    rw [List.range'_succ, List.foldl_cons]
    cases hb : s.testBit j
    · simp only [Bool.false_eq_true, if_false]
      exact ih (j + 1) st (by omega) ht hM
    simp only [if_true]
    obtain ⟨f1, f2, f3, f4⟩ := q4 st.2 R j (R - st.1) st.1 (by omega)
    refine VA hR hC hjC st.2 _ ?_ (R - st.1) st.1 (by omega) rfl
    refine Ev.succ ?_
    by_cases c : zH st.2 R st.1 j < R
    · have he : jQ p R st j = (st.1 + 1, vK p st.1 j R (zQ (qF (zH st.2 R st.1 j) st.1) st.2)) := by unfold jQ; rw [if_pos c]
      rw [he]
      have htR : st.1 < R := by omega
      simp only [ze.j2, show ¬ (((zH st.2 R st.1 j : Nat) : Int) ≥ (R : Int)) by omega, if_false]
      generalize zH st.2 R st.1 j = b at c f1 ⊢
      have l2 := jj (fun k (M : Tab) m => ze.l2 k p R C s (zT M R C) (st.1 : Nat) (j : Nat) (b : Nat) m) C (fun M m => qJ (qF b st.1) M m) (fun _ _ => True)
        (fun m M hm _ => ⟨trivial, fun r hr => by
          have h1 := vo c hm
          have h2 := vo htR hm
          simp only [ze.l2, show ((m : Int) < (C : Int)) by omega, if_true, jf (show b ≤ 8 by omega) hC (show m ≤ 8 by omega), jf (show st.1 ≤ 8 by omega) hC (show m ≤ 8 by omega), qv, Int.toNat_natCast, jb, je M c hm, je M htR hm,
            show (0 : Int) ≤ ((b * C + m : Nat) : Int) by omega, show ((b * C + m : Nat) : Int) < ((R * C : Nat) : Int) by omega, show (0 : Int) ≤ ((st.1 * C + m : Nat) : Int) by omega, show ((st.1 * C + m : Nat) : Int) < ((R * C : Nat) : Int) by omega, zY (show m < 9223372036854775807 by omega), yr _ c hm, yr _ htR hm, Vo]
          exact hr⟩) st.2 trivial
      refine l2.2 _ (Ev.succ ?_)
      simp only [ze.l2, show ¬ ((C : Int) < (C : Int)) by omega, if_false, zY (show st.1 < 9223372036854775807 by omega)]
      rw [yW]
      have hM1 : InF p R C (zQ (qF b st.1) st.2) := hM.swap c htR
      generalize zQ (qF b st.1) st.2 = M1 at hM1 ⊢
      refine y3 (fun k (M' : Tab) i => ze.l3 k p R C s (zT M' R C) (st.1 : Nat) (j : Nat) i) R (jz p st.1 j) (fun i M' => InF p R C M' ∧ st.1 < i) (fun M' => (((List.range' (j + 1) d).foldl (fun st j => if s.testBit j = true then jQ p R st j else st) (st.1 + 1, M')).1 : Int))
        (fun M' hM' => ?_) (fun i M' hi hM' => ⟨⟨hM'.1.jz hp.1, by omega⟩, fun r hr => ?_⟩) (R - (st.1 + 1)) (st.1 + 1) M1 (by omega) ⟨hM1, by omega⟩
      · simp only [ze.l3, show ¬ ((R : Int) < (R : Int)) by omega, if_false, zY (show st.1 < 9223372036854775807 by omega), zY (show j < 9223372036854775807 by omega)]
        exact ih (j + 1) (st.1 + 1, M') (by omega) htR hM'.1
      · obtain ⟨hM', hti⟩ := hM'
        have h1 := vo hi hjC
        have h2 := vo htR hjC
        have hx := hM' i j hi hjC
        have hy := hM' st.1 j htR hjC
        simp only [ze.l3, show ((i : Int) < (R : Int)) by omega, if_true, jf (show i ≤ 8 by omega) hC (show j ≤ 8 by omega), jf (show st.1 ≤ 8 by omega) hC (show j ≤ 8 by omega), qv, jb, je M' hi hjC, je M' htR hjC,
          show (0 : Int) ≤ ((i * C + j : Nat) : Int) by omega, show ((i * C + j : Nat) : Int) < ((R * C : Nat) : Int) by omega, show (0 : Int) ≤ ((st.1 * C + j : Nat) : Int) by omega, show ((st.1 * C + j : Nat) : Int) < ((R * C : Nat) : Int) by omega]
        unfold jz at hr
        generalize M' i j = x at hr hx ⊢
        generalize M' st.1 j = y at hr hy ⊢
        have hstep : ∀ N : Tab, InF p R C N → InF p R C (zQ (QB p st.1 i x y) N) := fun N hN i' c' hi' hc' => by
          unfold zQ QB
          split
          · exact VM _ hp.1
          · exact hN i' c' hi' hc'
        have l4 := jj (fun k (N : Tab) m => ze.l4 k p R C s (zT N R C) (st.1 : Nat) (j : Nat) (i : Nat) x y m) C (fun N m => qJ (QB p st.1 i x y) N m) (fun _ N => InF p R C N)
          (fun m N hm hN => ⟨yu hstep hN hm, fun r hr => by
            have h3 := vo hi hm
            have h4 := vo htR hm
            simp only [ze.l4, show ((m : Int) < (C : Int)) by omega, if_true, jf (show i ≤ 8 by omega) hC (show m ≤ 8 by omega), jf (show st.1 ≤ 8 by omega) hC (show m ≤ 8 by omega), qv, Int.toNat_natCast, jb, je N hi hm, je N htR hm,
              show (0 : Int) ≤ ((i * C + m : Nat) : Int) by omega, show ((i * C + m : Nat) : Int) < ((R * C : Nat) : Int) by omega, show (0 : Int) ≤ ((st.1 * C + m : Nat) : Int) by omega, show ((st.1 * C + m : Nat) : Int) < ((R * C : Nat) : Int) by omega, zY (show m < 9223372036854775807 by omega), show ¬ p = 0 by omega, if_false,
              Vh (a := N i m) (b := N st.1 m) (x := x) (y := y) hp (hN i m hi hm) (hN st.1 m htR hm) hx hy, yr _ hi hm, V9]
            exact hr⟩) M' hM'
        refine l4.2 _ (Ev.succ ?_)
        simp only [ze.l4, show ¬ ((C : Int) < (C : Int)) by omega, if_false, zY (show i < 9223372036854775807 by omega)]
        rw [yW]
        exact hr
    · have he : jQ p R st j = st := by unfold jQ; rw [if_neg c]
      rw [he]
      simp only [ze.j2, show (((zH st.2 R st.1 j : Nat) : Int) ≥ (R : Int)) by omega, if_true, zY (show j < 9223372036854775807 by omega)]
      exact ih (j + 1) st (by omega) ht hM
theorem V7 {s : Nat} (hs : s < 2 ^ C) {l : List Int} (hl : l.length = R * C) (hx : ∀ x ∈ l, 0 ≤ x ∧ x < p) :
    Ev (fun k => ze.f k p R C l s) ((vt p R s (jB l C) C).1 : Int) := by
  have hp := jc hf
  have h256 : s < 256 := Nat.lt_of_lt_of_le hs (Nat.pow_le_pow_right (n := 2) (by decide) hC)
  have hRC : R * C ≤ 64 := Nat.le_trans (Nat.mul_le_mul hR hC) (by decide)
  have key := VH hR hC hf h256 C 0 (0, jB l C) (by omega) (Nat.zero_le _) (fun i j _ _ => Jr hp.1 hx _)
  rw [J0 hl, ← List.range_eq_range'] at key
  unfold ze.f
  simp only [Option.bind_some, List.length_nil, show 0 + l.length < 17592186044416 by omega, if_true, List.nil_append]
  exact key
end
end Go.Proofs.Ytopkfhnnapncgaa.L
end
section
namespace Go.Proofs.Ytopkfhnnapncgaa.L
open Go.RowKit Go.Proofs.Ytopkfhnnapncgaa.F Go.Proofs.YtopkfhnnapncgaaW.PrintWords Go.Proofs.YtopkfhnnapncgaaW.PrintLast Go.Proofs.YtopkfhnnapncgaaW.PrintMore
open Go.Proofs.Ytopkfhnnapncgaa.Bits
set_option linter.unusedSimpArgs false
set_option linter.unusedVariables false
section
variable {p : Int} {R C : Nat} (hR : R ≤ 8) (hC : C ≤ 8) (hf : isField p = true)
include hR hC
include hf
end
end Go.Proofs.Ytopkfhnnapncgaa.L
end
section
namespace Go.Proofs.Ytopkfhnnapncgaa.L
open Go.RowKit Go.Proofs.Ytopkfhnnapncgaa.F Go.Proofs.YtopkfhnnapncgaaW.PrintWords Go.Proofs.YtopkfhnnapncgaaW.PrintLast Go.Proofs.YtopkfhnnapncgaaW.PrintMore
open Go.Proofs.Ytopkfhnnapncgaa.Bits
set_option linter.unusedSimpArgs false
set_option linter.unusedVariables false
theorem yy (M : Tab) {R C i : Nat} (hi : i < R) : zw (zR M R C) (i : Int) = qA M C i := by
  unfold zw; rw [Int.toNat_natCast]; exact vR M hi
theorem QV (M : Tab) {R C a b : Nat} (ha : a < R) (hb : b < R) : QA (zR M R C) (a : Int) (b : Int) = some (zR (zQ (qF a b) M) R C) := by
  unfold QA
  rw [if_pos ⟨by omega, by rw [qh]; omega, by omega, by rw [qh]; omega⟩]
  simp only [Int.toNat_natCast, vR M ha, vR M hb, JT M ha hb]
section
variable {p : Int} {R C : Nat} (hR : R ≤ 8) (hC : C ≤ 8) (hf : isField p = true)
include hR
theorem J7 {t j : Nat} (ps : List Int) (hj : j < C) (M : Tab) (l : List Int) (r : Int × Int × Int × List Int × List Int) (h : Ev (fun k => zc.j3 k (zR M R C) ps j t (zH M R t j : Nat) p R C l) r) :
    ∀ d a, a + d = R → zH M R a j = zH M R t j → Ev (fun k => zc.l2 k (zR M R C) ps j t (a : Nat) p R C l) r
  | 0, a, ha, he => by
    obtain rfl : a = R := by omega
    rw [vT] at he
    rw [← he] at h
    refine Ev.succ ?_
    simp only [zc.l2, qh, show ¬ ((a : Int) < (a : Int)) by omega, if_false]
    exact h
  | d + 1, a, ha, he => by
    have hlt : a < R := by omega
    rw [yq hlt] at he
    refine Ev.succ ?_
    simp only [zc.l2, qh, show ((a : Int) < (R : Int)) by omega, if_true, show (0 : Int) ≤ (a : Int) by omega, show (0 : Int) ≤ (j : Int) by omega, yy M hlt, qK, show ((j : Int) < (C : Int)) by omega, jb, j8 M hj, zY (show a < 9223372036854775807 by omega)]
    by_cases c : M a j = 0
    · rw [if_pos c] at he
      simp only [c, if_true]
      exact J7 ps hj M l r h d (a + 1) (by omega) he
    · rw [if_neg c] at he
      simp only [c, if_false]
      rw [← he] at h
      exact h
include hC hf
theorem Yl {t col : Nat} (ps : List Int) (hps : ps.length ≤ 8) (ht : t < R) (hc : col < C) {M : Tab} (hM : InF p R C M) (hx : M t col ≠ 0) (l : List Int) (r : Int × Int × Int × List Int × List Int)
    (h : Ev (fun k => zc.l1 k (zR (jZ p R t col M) R C) (ps ++ [(col : Int)]) ((col + 1 : Nat) : Int) p R C l) r) :
    Ev (fun k => zc.l3 k (zR M R C) ps col t (jy p (M t col)) (C : Int) 0 p R C l) r := by
  have hp := jc hf
  have hv := hM t col ht hc
  have hi0 := y6 p (M t col)
  have hi1 := V0 hp.1 (M t col)
  have l1 := jj (fun k (M' : Tab) j => zc.l3 k (zR M' R C) ps col t (jy p (M t col)) (C : Int) j p R C l) C (fun M' j => qJ (jV p t (jy p (M t col))) M' j) (fun _ M' => InF p R C M')
    (fun j M' hj hM' => ⟨yu (fun N hN => hN.scale hp.1 ht hi0) hM' hj, fun r hr => by
      have hb := hM' t j ht hj
      simp only [zc.l3, show ((j : Int) < (C : Int)) by omega, if_true, qh, show (0 : Int) ≤ (t : Int) by omega, show ((t : Int) < (R : Int)) by omega, show (0 : Int) ≤ (j : Int) by omega, yy M' ht, qK, Int.toNat_natCast, jb, j8 M' hj,
        zY (show j < 9223372036854775807 by omega), show ¬ p = 0 by omega, if_false,
        wrap_mul (x := M' t j) (y := jy p (M t col)) ⟨by omega, by omega⟩ ⟨by omega, by omega⟩, Zt _ ht hj, JY]
      exact hr⟩) M hM
  refine l1.2 _ (Ev.succ ?_)
  simp only [zc.l3, show ¬ ((C : Int) < (C : Int)) by omega, if_false, qh]
  rw [yI]
  have hM1 : InF p R C (zQ (jV p t (jy p (M t col))) M) := hM.scale hp.1 ht hi0
  replace h : Ev (fun k => zc.l1 k (zR (vJ p t col R (zQ (jV p t (jy p (M t col))) M)) R C) (ps ++ [(col : Int)]) ((col + 1 : Nat) : Int) p R C l) r := h
  generalize zQ (jV p t (jy p (M t col))) M = M1 at hM1 h ⊢
  have l4 := jj (fun k (M' : Tab) i => zc.l4 k (zR M' R C) ps col t (R : Int) i p R C l) R (qD p t col) (fun _ M' => InF p R C M')
    (fun i M' hi hM' => ⟨hM'.qD hp.1 ht hc hi, fun r hr => by
      have hg := hM' i col hi hc
      simp only [zc.l4, show ((i : Int) < (R : Int)) by omega, if_true, qh, show (0 : Int) ≤ (i : Int) by omega, show (0 : Int) ≤ (col : Int) by omega, yy M' hi, qK, show ((col : Int) < (C : Int)) by omega, jb, j8 M' hc]
      by_cases hit : i = t
      · subst hit
        rw [qD, if_pos rfl] at hr
        refine Ev.succ ?_
        simp only [zc.l5, show ((0 : Int) < (C : Int)) by omega, if_true, zY (show i < 9223372036854775807 by omega)]
        exact hr
      · rw [qD, if_neg hit] at hr
        generalize M' i col = g at hr hg ⊢
        have l2 := jj (fun k (N : Tab) j => zc.l5 k (zR N R C) ps col t (i : Int) g j (R : Int) (i : Int) p R C l) C (fun N j => qJ (Ze p t i g) N j) (fun _ N => InF p R C N)
          (fun j N hj hN => ⟨yu (fun N hN => hN.elim hp.1 ht hi hg) hN hj, fun r hr => by
            simp only [zc.l5, show ((j : Int) < (C : Int)) by omega, if_true, show ¬ ((i : Int) = (t : Int)) by omega, if_false, qh, show (0 : Int) ≤ (i : Int) by omega, show ((i : Int) < (R : Int)) by omega, show (0 : Int) ≤ (j : Int) by omega, yy N hi, yy N ht, qK, show (0 : Int) ≤ (t : Int) by omega, show ((t : Int) < (R : Int)) by omega, Int.toNat_natCast, jb, j8 N hj,
              zY (show j < 9223372036854775807 by omega), show ¬ p = 0 by omega,
              JN (x := N i j) (g := g) (y := N t j) hp (hN i j hi hj) hg (hN t j ht hj), Zt _ hi hj, VQ]
            exact hr⟩) M' hM'
        refine l2.2 _ (Ev.succ ?_)
        simp only [zc.l5, show ¬ ((C : Int) < (C : Int)) by omega, if_false, zY (show i < 9223372036854775807 by omega)]
        rw [yI]
        exact hr⟩) M1 hM1
  refine l4.2 _ (Ev.succ ?_)
  simp only [zc.l4, show ¬ ((R : Int) < (R : Int)) by omega, if_false, show ps.length < 17592186044416 by omega, if_true, zY (show col < 9223372036854775807 by omega)]
  exact h
theorem zao (l : List Int) : ∀ d j (s : Red), j + d = C → Z9 p R C s →
    Ev (fun k => zc.l1 k (zR s.M R C) s.ps (j : Nat) p R C l) (p, (((List.range' j d).foldl (z8 p R) s).t : Int), (C : Int), zT ((List.range' j d).foldl (z8 p R) s).M ((List.range' j d).foldl (z8 p R) s).t C, ((List.range' j d).foldl (z8 p R) s).ps) := by
  have hp := jc hf
  intro d
  induction d with
  | zero =>
    intro j s hj hs
    obtain rfl : j = C := by omega
    have ht := hs.t_le
    have hlen := hs.len
    have hRC : R * j ≤ 64 := Nat.le_trans (Nat.mul_le_mul hR hC) (by decide)
    refine Ev.succ ?_
    simp only [zc.l1, show ¬ ((j : Int) < (j : Int)) by omega, if_false, hlen, show (0 : Int) ≤ (s.t : Int) by omega, if_true, qh, show ((s.t : Int) ≤ (R : Int)) by omega, Option.bind_some, Int.toNat_natCast, JO s.M ht]
    refine Zz (fun k (x : List Int) i => zc.l6 k s.ps (zR s.M s.t j) (s.t : Int) i p (s.t : Int) (j : Int) x) s.t (fun x i => x ++ qA s.M j i) (fun i x => x = zT s.M i j) (fun x => (p, (s.t : Int), (j : Int), x, s.ps))
      (fun x hx => by simp only [zc.l6, show ¬ ((s.t : Int) < (s.t : Int)) by omega, if_false]; exact Ev.now _)
      (fun i x hi hx => ⟨by rw [hx]; exact y2 s.M j i, fun r hr => by
        have hle : i * j ≤ R * j := Nat.mul_le_mul_right _ (by omega)
        simp only [zc.l6, show ((i : Int) < (s.t : Int)) by omega, if_true, show (0 : Int) ≤ (i : Int) by omega, qh, yy s.M hi, qK, show x.length + j < 17592186044416 by rw [hx, qv]; omega, zY (show i < 9223372036854775807 by omega)]
        exact hr⟩) [] (by simp [zT]) |> fun q => ?_
    have hfold : (List.range s.t).foldl (fun x i => x ++ qA s.M j i) [] = zT s.M s.t j := by
      have : ∀ n, (List.range n).foldl (fun x i => x ++ qA s.M j i) [] = zT s.M n j := fun n => by
        induction n with
        | zero => simp [zT]
        | succ n ih => rw [List.range_succ, List.foldl_append, ih]; exact y2 s.M j n
      exact this _
    rw [hfold] at q
    exact q
  | succ d ih =>
    intro j s hj hs
    have hjC : j < C := by omega
    have hlen := hs.len
    have htle := hs.t_le
    refine Ev.succ ?_
    simp only [zc.l1, show ((j : Int) < (C : Int)) by omega, if_true, hlen]
    have ho := hs.step hp.1 hjC
    have hrec := ih (j + 1) (z8 p R s j) (by omega) ho
    rw [List.range'_succ, List.foldl_cons]
    obtain ⟨f1, f2, f3, f4⟩ := q4 s.M R j (R - s.t) s.t (by omega)
    refine J7 hR s.ps hjC s.M l _ ?_ (R - s.t) s.t (by omega) rfl
    refine Ev.succ ?_
    by_cases c : zH s.M R s.t j = R
    · have he : z8 p R s j = s := by unfold z8; rw [if_neg (by omega)]
      rw [he] at hrec ⊢
      simp only [zc.j3, c, qh, show ((R : Int) ≥ (R : Int)) by omega, if_true, zY (show j < 9223372036854775807 by omega)]
      exact hrec
    · have hlt : zH s.M R s.t j < R := by omega
      have htR : s.t < R := by omega
      have he : z8 p R s j = ⟨s.t + 1, jZ p R s.t j (zQ (qF s.t (zH s.M R s.t j)) s.M), s.ps ++ [(j : Int)]⟩ := by unfold z8; rw [if_pos hlt]
      rw [he] at hrec ⊢
      have hsw := hs.inF.swap (M := s.M) htR hlt
      have hne : (zQ (qF s.t (zH s.M R s.t j)) s.M) s.t j ≠ 0 := by
        unfold zQ qF
        by_cases c2 : s.t = zH s.M R s.t j
        · rw [if_pos c2]; rw [← c2] at f3; exact f3 htR
        · rw [if_neg c2, if_pos rfl]; exact f3 hlt
      simp only [zc.j3, qh, show ¬ (((zH s.M R s.t j : Nat) : Int) ≥ (R : Int)) by omega, if_false, QV s.M htR hlt, Option.bind_some, show (0 : Int) ≤ (s.t : Int) by omega, show ((s.t : Int) < (R : Int)) by omega, if_true, show (0 : Int) ≤ (j : Int) by omega, yy _ htR, qK, show ((j : Int) < (C : Int)) by omega, jb, j8 _ hjC]
      have hv := hsw s.t j htR hjC
      refine Ev.bind (zaj hf (show 1 ≤ (zQ (qF s.t (zH s.M R s.t j)) s.M) s.t j by omega) hv.2) ?_
      exact Yl hR hC hf s.ps (by omega) htR hjC hsw hne l _ hrec
end
end Go.Proofs.Ytopkfhnnapncgaa.L
end
section
namespace Go.Proofs.Ytopkfhnnapncgaa.L
open Go.RowKit Go.Proofs.Ytopkfhnnapncgaa.F Go.Proofs.YtopkfhnnapncgaaW.PrintWords Go.Proofs.YtopkfhnnapncgaaW.PrintLast Go.Proofs.YtopkfhnnapncgaaW.PrintMore
open Go.Proofs.Ytopkfhnnapncgaa.Bits
set_option linter.unusedSimpArgs false
set_option linter.unusedVariables false
theorem Jv {p : Int} (h : isField p = true) : Mt.qu p := by simpa [isField, Mt.qu] using h
section
variable {p : Int} {R C : Nat} (hR : R ≤ 8) (hC : C ≤ 8)
include hR hC
theorem VG (hf : isField p = true) {X : Tab} (hX : InF p R C X) : Ev (fun k => zc.f k p R C (zT X R C)) (p, ((vS p R C X).t : Int), (C : Int), zT (vS p R C X).M (vS p R C X).t C, (vS p R C X).ps) := by
  have hp := jc hf
  have hRC : R * C ≤ 64 := Nat.le_trans (Nat.mul_le_mul hR hC) (by decide)
  have key := zao hR hC hf (zT X R C) C 0 ⟨0, X, []⟩ (by omega) ⟨Nat.zero_le _, hX, rfl⟩
  rw [← List.range_eq_range'] at key
  unfold zc.f
  have l0 := jj (fun k (x : List (List Int)) i => zc.l0 k x i p R C (zT X R C)) R (fun x i => x ++ [qA X C i]) (fun i x => x = zR X i C)
    (fun i x hi hxx => ⟨by rw [hxx]; exact JQ _ C i, fun r hr => by
      have hle : (i + 1) * C ≤ R * C := Nat.mul_le_mul_right _ (by omega)
      have hle2 : i * C ≤ (i + 1) * C := Nat.mul_le_mul_right _ (by omega)
      have m1 := Zu (r := (i : Int)) (c := (C : Int)) ⟨by omega, by omega⟩ ⟨by omega, by omega⟩
      have m2 := Zu (r := ((i + 1 : Nat) : Int)) (c := (C : Int)) ⟨by omega, by omega⟩ ⟨by omega, by omega⟩
      have w1 : wrap64 ((i : Int) * (C : Int)) = ((i * C : Nat) : Int) := by rw [qN (by omega) (by omega)]; simp
      have w2 : wrap64 (((i + 1 : Nat) : Int) * (C : Int)) = (((i + 1) * C : Nat) : Int) := by rw [qN (by omega) (by omega), Int.natCast_mul]
      have hlen : x.length = i := by rw [hxx, qh]
      simp only [zc.l0, show ((i : Int) < (R : Int)) by omega, if_true, Option.bind_some, zY (show i < 9223372036854775807 by omega), w1, w2, show (0 : Int) ≤ ((i * C : Nat) : Int) by omega, show ((i * C : Nat) : Int) ≤ (((i + 1) * C : Nat) : Int) by omega, qv, show (((i + 1) * C : Nat) : Int) ≤ ((R * C : Nat) : Int) by omega, Int.toNat_natCast, QT X hi, qK, List.length_nil, show 0 + C < 17592186044416 by omega, hlen, show i < 5864062014805 by omega, List.nil_append]
      exact hr⟩) [] (by simp [zR])
  have hfold := l0.1
  refine l0.2 _ (Ev.succ ?_)
  simp only [zc.l0, show ¬ ((R : Int) < (R : Int)) by omega, if_false]
  rw [hfold]
  exact key
theorem YA {s : Int} {es : List Nat} (hes : vQ s = es) (hlt : ∀ e ∈ es, e < C) {l : List Int} (hl : l.length = R * C) :
    Ev (fun k => zr.f k p R C l s) (p, (R : Int), (es.length : Int), zT (jA es (jB l C)) R es.length) := by
  have h8 : es.length ≤ 8 := by rw [← hes]; exact yl s
  have hRe : R * es.length ≤ 64 := Nat.le_trans (Nat.mul_le_mul hR h8) (by decide)
  unfold zr.f
  refine Ev.bind (Qh s) ?_
  rw [hes]
  have hil : (ints es).length = es.length := by simp [ints]
  have l0 := jj (fun k (x : List Int) i => zr.l0 k (ints es) i p R C l p R ((ints es).length : Int) x) R (fun x i => x ++ qA (jA es (jB l C)) es.length i) (fun i x => x = zT (jA es (jB l C)) i es.length)
    (fun i x hi hxx => ⟨by rw [hxx]; exact y2 _ _ i, fun r hr => by
      have hle : (i + 1) * es.length ≤ R * es.length := Nat.mul_le_mul_right _ (by omega)
      rw [Nat.succ_mul] at hle
      have hxl : x.length = i * es.length := by rw [hxx, qv]
      simp only [zr.l0, show ((i : Int) < (R : Int)) by omega, if_true]
      have l1 := jj (fun k (y : List Int) q => zr.l1 k (ints es) i (ints es) ((ints es).length : Int) q p R C l p R ((ints es).length : Int) y) es.length (fun y q => y ++ [jB l C i (es.getD q 0)]) (fun q y => y = x ++ (List.range q).map (jA es (jB l C) i))
        (fun q y hq hy => ⟨by rw [hy, List.range_succ, List.map_append, List.append_assoc]; rfl, fun r hr => by
          have he : es[q] ∈ es := List.getElem_mem hq
          have hg : es.getD q 0 = es[q] := by simp [List.getD_eq_getElem?_getD, hq]
          have hcl := Yo hl hi (hlt _ he)
          have h7 := hlt _ he
          have hyl : y.length = i * es.length + q := by rw [hy, List.length_append, hxl]; simp
          simp only [zr.l1, hil, show ((q : Int) < (es.length : Int)) by omega, if_true, show (0 : Int) ≤ (q : Int) by omega, VT es q hq, jd.f, jf (show i ≤ 8 by omega) hC (show es[q] ≤ 8 by omega), show (0 : Int) ≤ ((i * C + es[q] : Nat) : Int) by omega, show ((i * C + es[q] : Nat) : Int) < (l.length : Int) by omega, jb, Option.bind_some, show y.length < 17592186044416 by omega, zY (show q < 9223372036854775807 by omega)]
          rw [hg] at hr
          rw [hil] at hr
          exact hr⟩) x (by simp)
      have l1e := l1.1
      refine l1.2 _ (Ev.succ ?_)
      simp only [zr.l1, hil, show ¬ ((es.length : Int) < (es.length : Int)) by omega, if_false, zY (show i < 9223372036854775807 by omega)]
      rw [l1e]
      rw [hil] at hr
      exact hr⟩) [] (by simp [zT])
  have l0e := l0.1
  refine l0.2 _ (Ev.succ ?_)
  simp only [zr.l0, show ¬ ((R : Int) < (R : Int)) by omega, if_false]
  rw [l0e, hil]
  exact Ev.now _
end
def Jf (p r c : Int) (l : List Int) (s : Int) : Bool := jg p r c l && decide (0 ≤ c ∧ c ≤ 8 ∧ 0 ≤ s ∧ s < 2 ^ c.toNat)
def vD (p r c : Int) (l : List Int) (s : Int) : Int := if Jf p r c l s = true then ((vt p r.toNat s.toNat (jB l c.toNat) c.toNat).1 : Int) else -1
theorem Qu (p r c : Int) (l : List Int) (s : Int) : Ev (fun k => qp.f k p r c l s) (vD p r c l s) := by
  unfold qp.f vD Jf
  refine Ev.bind (Q1 p r c l) ?_
  cases h : jg p r c l
  · simp only [Bool.false_eq_true, if_false, Bool.false_and]; exact Ev.now _
  simp only [if_true, Yg, Option.bind_some, Bool.true_and]
  by_cases hs : 0 ≤ c ∧ c ≤ 8 ∧ 0 ≤ s ∧ s < 2 ^ c.toNat
  · simp only [hs, decide_true, and_self, if_true]
    obtain ⟨R, C, rfl, rfl, hR, hC, hl, h2, h7, hf, hx⟩ := yS h
    obtain ⟨S, rfl⟩ := Int.eq_ofNat_of_zero_le hs.2.2.1
    rw [Int.toNat_natCast] at hs
    have hS : S < 2 ^ C := by have := hs.2.2.2; exact_mod_cast this
    simp only [Int.toNat_natCast]
    exact Ev.bind (V7 hR hC hf hS hl hx) (Ev.now _)
  · simp only [hs, decide_false, Bool.false_eq_true, if_false]; exact Ev.now _
theorem Qo (p r c : Int) (l : List Int) (s : Int) : Ev (fun k => zv.f k p r c l s) (vD p r c l s) := by
  have no : Ev (fun k => zv.j0 k s true p r c l) (-1) := Ev.succ (by simp only [zv.j0, if_true]; exact Ev.now _)
  unfold zv.f vD Jf
  refine Ev.bind (Jb p r c l) ?_
  cases h : jg p r c l
  · simp only [Bool.false_eq_true, if_false, Bool.false_and]; exact no
  simp only [if_true, VU, Option.bind_some, Bool.true_and]
  by_cases hs : 0 ≤ c ∧ c ≤ 8 ∧ 0 ≤ s ∧ s < 2 ^ c.toNat
  · simp only [hs, decide_true, and_self, if_true, Bool.not_true]
    obtain ⟨R, C, rfl, rfl, hR, hC, hl, h2, h7, hf, hx⟩ := yS h
    obtain ⟨S, rfl⟩ := Int.eq_ofNat_of_zero_le hs.2.2.1
    rw [Int.toNat_natCast] at hs
    have hS : S < 2 ^ C := by have := hs.2.2.2; exact_mod_cast this
    have h256 : S < 256 := Nat.lt_of_lt_of_le hS (Nat.pow_le_pow_right (n := 2) (by decide) hC)
    have hp := jc hf
    have hM : InF p R C (jB l C) := fun i j _ _ => Jr hp.1 hx _
    have hes : vQ (S : Int) = (List.range C).filter S.testBit := by
      rw [← QM S C hC hS]
      unfold vQ; rw [if_pos (by simp [isAny]; omega)]; rfl
    have hlt : ∀ e ∈ (List.range C).filter S.testBit, e < C := fun e he => List.mem_range.1 (List.mem_filter.1 he).1
    have h8 : ((List.range C).filter S.testBit).length ≤ 8 := by rw [← hes]; exact yl _
    refine Ev.succ ?_
    simp only [zv.j0, Bool.false_eq_true, if_false, Int.toNat_natCast]
    refine Ev.bind (YA hR hC hes hlt hl) ?_
    have hX : InF p R ((List.range C).filter S.testBit).length (jA ((List.range C).filter S.testBit) (jB l C)) := fun i q hi hq => by
      unfold jA
      refine hM i _ hi (hlt _ ?_)
      rw [List.getD_eq_getElem?_getD, List.getElem?_eq_getElem hq]
      exact List.getElem_mem hq
    refine Ev.bind (VG hR h8 hf hX) ?_
    refine Ev.some ?_
    have hlen : (vS p R ((List.range C).filter S.testBit).length (jA ((List.range C).filter S.testBit) (jB l C))).ps.length = (vS p R ((List.range C).filter S.testBit).length (jA ((List.range C).filter S.testBit) (jB l C))).t := by
      have hok : ∀ (js : List Nat) (st : Red), (∀ j ∈ js, j < ((List.range C).filter S.testBit).length) → Z9 p R ((List.range C).filter S.testBit).length st → Z9 p R ((List.range C).filter S.testBit).length (js.foldl (z8 p R) st) := fun js => by
        induction js with
        | nil => intro st _ h; exact h
        | cons j js ih => intro st hj h; exact ih _ (fun x hx => hj x (List.mem_cons_of_mem _ hx)) (h.step hp.1 (hj j List.mem_cons_self))
      exact (hok _ _ (fun j hj => List.mem_range.1 hj) ⟨Nat.zero_le _, hX, rfl⟩).len
    rw [hlen, JS, Yu (Jv hf) hC hS hM, ← Y3 (Jv hf) hC hS hM]
  · simp only [hs, decide_false, Bool.not_false, Bool.false_eq_true, if_false]; exact no
end Go.Proofs.Ytopkfhnnapncgaa.L
end
section
namespace Go.Proofs.Ytopkfhnnapncgaa.Pure
open Go.RowKit Go.Proofs.Ytopkfhnnapncgaa.F Go.Proofs.Ytopkfhnnapncgaa.L Go.Proofs.YtopkfhnnapncgaaW.PrintWords Go.Proofs.YtopkfhnnapncgaaW.PrintLast Go.Proofs.YtopkfhnnapncgaaW.PrintMore
theorem FnExactMatrixRank (p r c : Int) (l : List Int) (s : Int) (_ : (Lit.int .i64 p).wf = true) (_ : (Lit.int .i64 r).wf = true) (_ : (Lit.int .i64 c).wf = true) (hl : l.length * 8 ≤ 140737488351232) (_ : ∀ x ∈ l, (Lit.int .i64 x).wf = true) (_ : (Lit.int .i64 s).wf = true) :
    ∃ k, qw.f k p r c l s = some true := by
  have h1 : l.length ≤ 17592186044416 := by omega
  refine Ev.rounds ?_
  unfold qw.f
  obtain ⟨n, hn, hb⟩ := VB p r c l 1048576 h1 (by decide) (by decide)
  simp only [hn, Option.bind_some]
  by_cases h : n < 0
  · simp only [h, if_true]; exact Ev.now _
  simp only [h, if_false]
  refine Ev.bind (Zx p r c l h1) (Ev.bind (Qu p r c l s) (Ev.bind (Zx p r c l h1) (Ev.bind (Qo p r c l s) ?_)))
  simp only [if_true]
  refine Ev.bind (Zx p r c l h1) (Ev.bind (Va p r c l p r c l h1) ?_)
  simp only [decide_true, if_true]
  exact Ev.now _
end Go.Proofs.Ytopkfhnnapncgaa.Pure
end
section
namespace Go.Proofs.Ytopkfhnnapncgaa.fnExactMatrixRank
open Go.ChangeShapes Go.WideShapes Go.ChangeAt Go.RowKit Go.Joins
open Go.ChangeMaps (open_string shut_string)
set_option linter.unusedVariables false
theorem lifted (os : Os) (started : os.Started) (H : Type) (enc : TypeId × Value → H) :
    ReturnsInHanded {} Try.checked os 8 .any (Rows.fnExactMatrixRankSpec.pre6 enc Try.prog Try.f8 Rows.fnExactMatrixRankRow.domain false) (Rows.fnExactMatrixRankSpec.post enc Try.prog Try.f8 false true false false) := by
  refine returnsInHanded_of_change_sized (C := Try.checked) Open.own started (by kernel_rfl) Try.func8
    (ChangeSpec.witness6 (enc := enc) (C := Try.checked) false ⟨#[], #[.agg #[.int .i64 0, .int .i64 0, .int .i64 0, .slice none 0 0], .int .i64 0], []⟩ 8 (by kernel_rfl) (by kernel_rfl) (by kernel_rfl) (by kernel_rfl)) ?_
  intro W base args ds gs before hval0 hW hcnd hsz0 _
  have hsz : (DataW.weightsEach Try.prog (Try.f8.params.toList ++ Rows.fnExactMatrixRankSpec.plain.varTypes Try.prog) (ds ++ gs)).all (· ≤ reachBytes) = true := hsz0
  have hval : ∀ (j : Nat) t v, Try.f8.params[j]? = some t → args[j]? = some v → Value.okWide Try.prog W .any base t v := hval0
  have hW' := hW
  obtain ⟨p, q, hA0, hV, rfl, hfz, hnd⟩ := hW
  have hA : DataW.TrodAll enc Try.prog W 0 (fun _ => true) true Try.f8.params.toList args.toList ds p := hA0
  rw [Try.params8] at hA hval hsz
  obtain ⟨v0, vs0, d0, ds0, p0, q0, hargs, rfl, rfl, h0, r0⟩ := trodAll_cons hA
  obtain ⟨v1, vs1, d1, ds1, p1, q1, rfl, rfl, rfl, h1, r1⟩ := trodAll_cons r0
  obtain ⟨rfl, rfl, rfl⟩ := trodAll_nil r1
  obtain rfl : args = #[v0, v1] := by cases args; simp_all
  obtain ⟨rfl, rfl⟩ := trodVars_none hV
  have k0 := h0
  have lt0 : ∀ x ∈ p0, x.block < W.heap.size := by obtain ⟨m, hm⟩ := k0; exact DataW.trod_lt m _ _ _ hm
  obtain ⟨v0_0, v0_1, v0_2, v0_3, y0_0, y0_1, y0_2, y0_3, fuel0, rfl, hd0, hp0, t0_0, t0_1, t0_2, t0_3⟩ := open_agg4 Try.underlying24 (by kernel_rfl) (by kernel_rfl) (hval 0 24 v0 rfl rfl) h0
  have z0 : (DataW.weightsEach Try.prog [3, 3, 3, 22] [y0_0.1, y0_1.1, y0_2.1, y0_3.1]).all (· ≤ reachBytes) = true := Open.JH hsz (j := 0) (t := 24) rfl (congrArg some hd0) Try.underlying24
  obtain ⟨a0_0, e0_0, _, w0_0⟩ := DataW.trod_int Try.underlying3 t0_0
  obtain rfl : v0_0 = _ := (List.cons.inj e0_0).1
  obtain ⟨a0_1, e0_1, _, w0_1⟩ := DataW.trod_int Try.underlying3 t0_1
  obtain rfl : v0_1 = _ := (List.cons.inj e0_1).1
  obtain ⟨a0_2, e0_2, _, w0_2⟩ := DataW.trod_int Try.underlying3 t0_2
  obtain rfl : v0_2 = _ := (List.cons.inj e0_2).1
  obtain ⟨A0_3, c0_3, l0_3, rfl, hr0_3, hc0_3, hn0_3, hw0_3⟩ := Open.VJ (j := 3) Try.underlying22 Try.underlying3 (by kernel_rfl) (by kernel_rfl) z0 rfl rfl t0_3
  obtain ⟨a1, rfl, rfl, rfl, w1⟩ := open_int Try.underlying3 (hval 1 3 v1 rfl rfl) h1
  obtain ⟨k, h⟩ := Pure.FnExactMatrixRank a0_0 a0_1 a0_2 l0_3 a1 w0_0 w0_1 w0_2 hn0_3 hw0_3 w1
  refine (F.qw.calls (w := W) (hr0_3 := hr0_3) (hc0_3 := hc0_3) (h := h)).mono ?_
  rintro e W' ⟨he, hd⟩
  have bel : Below W.heap.size W W' := by first | exact hd | exact hd.below
  subst he
  exact ⟨_, rfl, _, _, _, [], _, [], hW', trodAll_mk1 (shut_bool Try.underlying4 _), (trodAll_cons_mk (Below.trod Open.laidOut (by kernel_rfl) (of_decide_eq_true (by kernel_rfl)) k0 bel lt0) (trodAll_cons_mk (shut_int Try.underlying3 w1) trodAll_mk0)), rfl, bel.frame _, fun h => by cases h⟩
theorem over : Rows.fnExactMatrixRankRow.holds Try.pinned (OpenSpec.ofChange Rows.fnExactMatrixRankSpec) :=
  OpenClaim.holds_of_wide 8 Try.f8 rfl rfl rfl rfl rfl rfl rfl ⟨rfl, rfl, rfl, rfl, rfl⟩ rfl rfl rfl rfl rfl (by kernel_rfl) Try.func8 (by kernel_rfl)
    (of_decide_eq_true (by kernel_rfl)) (by unfold Func.isWrapper; first | (rw [if_pos (by decide +kernel)]; kernel_rfl) | (rw [if_neg (by decide +kernel)]; exact ⟨rfl, rfl⟩))
    (fun os started H enc _ => lifted os started H enc)
theorem proved : Rows.FnExactMatrixRankSaid := over
end Go.Proofs.Ytopkfhnnapncgaa.fnExactMatrixRank
namespace Go.Proofs.Ytopkfhnnapncgaa
/-- The row, under a short name, for the claim. -/
theorem fnExactMatrixRank_holds : Rows.FnExactMatrixRankSaid := fnExactMatrixRank.proved
#print axioms fnExactMatrixRank_holds
end Go.Proofs.Ytopkfhnnapncgaa
end
