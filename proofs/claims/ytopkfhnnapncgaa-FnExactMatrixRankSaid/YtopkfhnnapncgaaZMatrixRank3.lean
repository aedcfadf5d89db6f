/- Several texts of this session in one: Fx8, Fx2. Conditions: as each theorem says. -/
import Derived.Test.YtopkfhnnapncgaaZMatrixRank0
import Derived.Test.YtopkfhnnapncgaaZMatrixRank1
import Derived.Test.YtopkfhnnapncgaaZMatrixRank2
set_option maxHeartbeats 8000000
set_option maxRecDepth 100000
section
namespace Go.Proofs.Ytopkfhnnapncgaa.F
open Go.RowKit Go.Proofs.YtopkfhnnapncgaaW.PrintWords Go.Proofs.YtopkfhnnapncgaaW.PrintLast Go.Proofs.YtopkfhnnapncgaaW.PrintMore
attribute [local go_sem] jP jR vl vm ju jv jO jN   -- for this text's walks alone
set_option linter.unusedVariables false
set_option linter.unusedSimpArgs false

def zv.j0 : Nat → Int → Bool → Int → Int → Int → List Int → Option (Int)
 | 0, _, _, _, _, _, _ => none
 | k + 1, x1, x16, x302000, x302001, x302002, x302003 => if x16 = true then (some (-1)) else ((zr.f k x302000 x302001 x302002 x302003 x1).bind fun bt304 => ((zc.f k bt304.1 bt304.2.1 bt304.2.2.1 bt304.2.2.2).bind fun bt310 => (some (bt310.2.2.2.2.length : Int))))
def zv.f (k : Nat) (a0_0 : Int) (a0_1 : Int) (a0_2 : Int) (l0_3 : List Int) (a1 : Int) : Option (Int) := (zk.f k a0_0 a0_1 a0_2 l0_3).bind fun t302 => (if t302 = true then ((qX.f a0_2 a1).bind fun t303 => (zv.j0 k a1 (!t303) a0_0 a0_1 a0_2 l0_3)) else (zv.j0 k a1 true a0_0 a0_1 a0_2 l0_3))
theorem zv.calls (k : Nat) (a0_0 : Int) (a0_1 : Int) (a0_2 : Int) (A0_3 : Option Addr) (c0_3 : Nat) (l0_3 : List Int) (a1 : Int) (r : Int) (w : World) (hr0_3 : Kd.C (Kd.int .i64) w A0_3 l0_3.length l0_3) (hc0_3 : l0_3.length ≤ c0_3) (h : zv.f k a0_0 a0_1 a0_2 l0_3 a1 = some r) :
  Calls Try.prog 31 #[.agg #[.int .i64 a0_0, .int .i64 a0_1, .int .i64 a0_2, .slice A0_3 l0_3.length c0_3], .int .i64 a1] w fun e w' => e = .returned (.int .i64 r) ∧ Below w.heap.size w w' := by
 have hu27 := Try.underlying27
 have HR0_3 := Aside0.mk hr0_3
 have HC0_3 := Aside0.mk hc0_3
 clear hr0_3 hc0_3
 have HB := Aside0.mk (Below.refl w.heap.size w)
 have H : ((zk.f k a0_0 a0_1 a0_2 l0_3).bind fun t302 => (if t302 = true then ((qX.f a0_2 a1).bind fun t303 => (zv.j0 k a1 (!t303) a0_0 a0_1 a0_2 l0_3)) else (zv.j0 k a1 true a0_0 a0_1 a0_2 l0_3))) = some r := h
 clear h
 have HC3 := Aside0.mk H
 clear H
 go_enter Try.func31, Try.ntmps31
 go_upto_region 1 with (first | ((with_reducible refine zx (N := 2) rfl ?_); refine zy ?hg (N := 2) ?hd (cs := #[.int .i64 a0_0, .int .i64 a0_1, .int .i64 a0_2, .slice A0_3 l0_3.length c0_3]) (t := 27) ?hr ?_; (case hd => rfl); (case hg => rfl); (case hr => exact sqG); intro gb301 hg w4 hbox hb; have n0_ := Aside0.mk (zj sqB hb); have n1_ := Aside0.mk (hbox); have n2_ := Aside0.mk ((sqS hg : w.heap.size ≤ gb301)); have n3_ := Aside0.mk ((sqS hg : w.heap.size ≤ gb301)); clear HB; have HB := n0_; have BK301 := n1_; have GW301 := n2_; have GE301 := n3_; clear n0_ n1_ n2_ n3_; clear hb hbox hg))
 (try simp only [Act.put, List.setIfInBounds_toArray, List.set_cons_zero, List.set_cons_succ])
 go_cut [16] (fun v16 wc => ∃ (kq : Nat) (x16_2 : Bool), v16 = .bool x16_2 ∧ Aside0 (zv.j0 kq a1 x16_2 a0_0 a0_1 a0_2 l0_3 = some r) ∧ Aside0 (kq ≤ k) ∧ Aside0 (wc.heap[gb301]? = some (.cells #[.int .i64 a0_0, .int .i64 a0_1, .int .i64 a0_2, (.slice A0_3 l0_3.length c0_3)] 27 (0, 0))) ∧ Aside0 (Below w.heap.size w wc))
 case first =>
  have H := HC3.out
  clear HC3
  replace H := Option.bind_eq_some_iff.mp H
  obtain ⟨t302, A50, H⟩ := H
  replace H : (if t302 = true then ((qX.f a0_2 a1).bind fun t303 => (zv.j0 k a1 (!t303) a0_0 a0_1 a0_2 l0_3)) else (zv.j0 k a1 true a0_0 a0_1 a0_2 l0_3)) = some r := H
  have A5 := Aside0.mk A50
  clear A50
  by_cases c6 : t302 = true
  ·subst c6
   have H1 : ((qX.f a0_2 a1).bind fun t303 => (zv.j0 k a1 (!t303) a0_0 a0_1 a0_2 l0_3)) = some r := by rw [if_pos rfl] at H; exact H
   clear H
   have H := H1
   clear H1
   replace H := Option.bind_eq_some_iff.mp H
   obtain ⟨t303, A70, H⟩ := H
   replace H : (zv.j0 k a1 (!t303) a0_0 a0_1 a0_2 l0_3) = some r := H
   have A7 := Aside0.mk A70
   clear A70
   have H' := Aside0.mk H
   clear H
   have hcz8_0 : w4.cell? ⟨gb301, 0, none⟩ = some (.int .i64 a0_0) := (zb BK301.out 0).trans rfl
   have hcz8_1 : w4.cell? ⟨gb301, 1, none⟩ = some (.int .i64 a0_1) := (zb BK301.out 1).trans rfl
   have hcz8_2 : w4.cell? ⟨gb301, 2, none⟩ = some (.int .i64 a0_2) := (zb BK301.out 2).trans rfl
   have hcz8_3 : w4.cell? ⟨gb301, 3, none⟩ = some (.slice A0_3 l0_3.length c0_3) := (zb BK301.out 3).trans rfl
   have hfz8_0 := za BK301.out 0; have hfz8_1 := za BK301.out 1; have hfz8_2 := za BK301.out 2; have hfz8_3 := za BK301.out 3
   go_wp2_with (first | ((with_reducible refine zt (f := 39) rfl ?_); refine zN (some 8) rfl rfl Try.func39 (by kernel_rfl) rfl #[.agg #[.int .i64 a0_0, .int .i64 a0_1, .int .i64 a0_2, .slice A0_3 l0_3.length c0_3]] rfl sqM ?_; (with_reducible refine (zk.calls k a0_0 a0_1 a0_2 _ _ l0_3 true _ ?side1 ?side2 A5.out).mono ?_); (case side1 => exact sqC (Kd.z7 HR0_3.out HB.out)); (case side2 => exact HC0_3.out); rintro e w9 ⟨rfl, hb⟩; refine ⟨_, rfl, ?_⟩; have n0_ := Aside0.mk (zq (g := gb301) (o := .cells #[.int .i64 a0_0, .int .i64 a0_1, .int .i64 a0_2, .slice A0_3 l0_3.length c0_3] 27 (0, 0)) (sqK BK301.out) hb); have n1_ := Aside0.mk (zj sqB hb); clear BK301; clear HB; have BK301 := n0_; have HB := n1_; clear n0_ n1_; (try clear hb); (try clear hb2); (try clear hk); (try clear hi); have hcz10_0 : w9.cell? ⟨gb301, 0, none⟩ = some (.int .i64 a0_0) := (zb BK301.out 0).trans rfl; have hcz10_1 : w9.cell? ⟨gb301, 1, none⟩ = some (.int .i64 a0_1) := (zb BK301.out 1).trans rfl; have hcz10_2 : w9.cell? ⟨gb301, 2, none⟩ = some (.int .i64 a0_2) := (zb BK301.out 2).trans rfl; have hcz10_3 : w9.cell? ⟨gb301, 3, none⟩ = some (.slice A0_3 l0_3.length c0_3) := (zb BK301.out 3).trans rfl; have hfz10_0 := za BK301.out 0; have hfz10_1 := za BK301.out 1; have hfz10_2 := za BK301.out 2; have hfz10_3 := za BK301.out 3) | (go_at_call 51; (try simp only [zd, zf]); (with_reducible refine (qX.calls a0_2 a1 t303 _ A7.out).mono ?_); rintro e w' ⟨rfl, ⟨nd, rfl⟩⟩))
   go_meet
   case rel => exact ⟨_, (!t303), (sqD), H', ⟨by first | omega | exact Nat.le_refl _⟩, ⟨sqK BK301.out⟩, ⟨sqB⟩⟩
  ·replace c6 := Bool.eq_false_iff.mpr c6
   subst c6
   have H1 : (zv.j0 k a1 true a0_0 a0_1 a0_2 l0_3) = some r := by rw [if_neg (show ¬ (false = true) by decide)] at H; exact H
   clear H
   have H := H1
   clear H1
   have H' := Aside0.mk H
   clear H
   have hcz11_0 : w4.cell? ⟨gb301, 0, none⟩ = some (.int .i64 a0_0) := (zb BK301.out 0).trans rfl
   have hcz11_1 : w4.cell? ⟨gb301, 1, none⟩ = some (.int .i64 a0_1) := (zb BK301.out 1).trans rfl
   have hcz11_2 : w4.cell? ⟨gb301, 2, none⟩ = some (.int .i64 a0_2) := (zb BK301.out 2).trans rfl
   have hcz11_3 : w4.cell? ⟨gb301, 3, none⟩ = some (.slice A0_3 l0_3.length c0_3) := (zb BK301.out 3).trans rfl
   have hfz11_0 := za BK301.out 0; have hfz11_1 := za BK301.out 1; have hfz11_2 := za BK301.out 2; have hfz11_3 := za BK301.out 3
   go_wp2_with (first | ((with_reducible refine zt (f := 39) rfl ?_); refine zN (some 8) rfl rfl Try.func39 (by kernel_rfl) rfl #[.agg #[.int .i64 a0_0, .int .i64 a0_1, .int .i64 a0_2, .slice A0_3 l0_3.length c0_3]] rfl sqM ?_; (with_reducible refine (zk.calls k a0_0 a0_1 a0_2 _ _ l0_3 false _ ?side1 ?side2 A5.out).mono ?_); (case side1 => exact sqC (Kd.z7 HR0_3.out HB.out)); (case side2 => exact HC0_3.out); rintro e w12 ⟨rfl, hb⟩; refine ⟨_, rfl, ?_⟩; have n0_ := Aside0.mk (zq (g := gb301) (o := .cells #[.int .i64 a0_0, .int .i64 a0_1, .int .i64 a0_2, .slice A0_3 l0_3.length c0_3] 27 (0, 0)) (sqK BK301.out) hb); have n1_ := Aside0.mk (zj sqB hb); clear BK301; clear HB; have BK301 := n0_; have HB := n1_; clear n0_ n1_; (try clear hb); (try clear hb2); (try clear hk); (try clear hi)))
   go_meet
   case rel => exact ⟨_, (true), (sqD), H', ⟨by first | omega | exact Nat.le_refl _⟩, ⟨sqK BK301.out⟩, ⟨sqB⟩⟩
 case rest =>
  clear HC3
  try clear p2
  try clear c3
  try clear c6
  try clear hcz10_0
  try clear hcz10_1
  try clear hcz10_2
  try clear hcz10_3
  try clear hcz11_0
  try clear hcz11_1
  try clear hcz11_2
  try clear hcz11_3
  try clear hcz8_0
  try clear hcz8_1
  try clear hcz8_2
  try clear hcz8_3
  try clear hfz10_0
  try clear hfz10_1
  try clear hfz10_2
  try clear hfz10_3
  try clear hfz11_0
  try clear hfz11_1
  try clear hfz11_2
  try clear hfz11_3
  try clear hfz8_0
  try clear hfz8_1
  try clear hfz8_2
  try clear hfz8_3
  obtain ⟨kq, x16_2, rfl, HA, HJ2, BK301, HB⟩ := hcut
  cases kq with
  | zero => exact absurd HA.out (by simp [zv.j0])
  | succ kj2 =>
   have H := HA.out
   clear HA
   simp only [zv.j0] at H
   by_cases c13 : x16_2 = true
   ·subst c13
    have H1 : (some (-1)) = some r := by rw [if_pos rfl] at H; exact H
    clear H
    have H := H1
    clear H1
    obtain rfl := Option.some.inj H
    go_wp2
    go_ret
    exact ⟨sqE, sqB⟩
   ·replace c13 := Bool.eq_false_iff.mpr c13
    subst c13
    have H1 : ((zr.f kj2 a0_0 a0_1 a0_2 l0_3 a1).bind fun bt304 => ((zc.f kj2 bt304.1 bt304.2.1 bt304.2.2.1 bt304.2.2.2).bind fun bt310 => (some (bt310.2.2.2.2.length : Int)))) = some r := by rw [if_neg (show ¬ (false = true) by decide)] at H; exact H
    clear H
    have H := H1
    clear H1
    replace H := Option.bind_eq_some_iff.mp H
    obtain ⟨⟨t304, t305, t306, t307⟩, A140, H⟩ := H
    replace H : ((zc.f kj2 t304 t305 t306 t307).bind fun bt310 => (some (bt310.2.2.2.2.length : Int))) = some r := H
    have A14 := Aside0.mk A140
    clear A140
    replace H := Option.bind_eq_some_iff.mp H
    obtain ⟨⟨t310, t311, t312, t313, t316⟩, A150, H⟩ := H
    replace H : (some (t316.length : Int)) = some r := H
    have A15 := Aside0.mk A150
    clear A150
    obtain rfl := Option.some.inj H
    have hcz16_0 : wc.cell? ⟨gb301, 0, none⟩ = some (.int .i64 a0_0) := (zb BK301.out 0).trans rfl
    have hcz16_1 : wc.cell? ⟨gb301, 1, none⟩ = some (.int .i64 a0_1) := (zb BK301.out 1).trans rfl
    have hcz16_2 : wc.cell? ⟨gb301, 2, none⟩ = some (.int .i64 a0_2) := (zb BK301.out 2).trans rfl
    have hcz16_3 : wc.cell? ⟨gb301, 3, none⟩ = some (.slice A0_3 l0_3.length c0_3) := (zb BK301.out 3).trans rfl
    have hfz16_0 := za BK301.out 0; have hfz16_1 := za BK301.out 1; have hfz16_2 := za BK301.out 2; have hfz16_3 := za BK301.out 3
    go_wp2_with (first | ((with_reducible refine zt (f := 59) rfl ?_); refine zN (some 20) rfl rfl Try.func59 (by kernel_rfl) rfl #[.agg #[.int .i64 a0_0, .int .i64 a0_1, .int .i64 a0_2, .slice A0_3 l0_3.length c0_3], .int .i64 a1] rfl sqM ?_; (with_reducible refine (zr.calls kj2 a0_0 a0_1 a0_2 _ _ l0_3 a1 t304 t305 t306 t307 _ ?side1 ?side2 A14.out).mono ?_); (case side1 => exact sqC (Kd.z7 HR0_3.out HB.out)); (case side2 => exact HC0_3.out); rintro e w17 ⟨v308, rfl, ho0, hb⟩; refine ⟨_, rfl, ?_⟩; have n0_ := Aside0.mk (Kd.qE ho0 (zI sqB)); have n1_ := Aside0.mk (zq (g := gb301) (o := .cells #[.int .i64 a0_0, .int .i64 a0_1, .int .i64 a0_2, .slice A0_3 l0_3.length c0_3] 27 (0, 0)) (sqK BK301.out) hb); have n2_ := Aside0.mk (zj sqB hb); clear BK301; clear HB; have HO309 := n0_; have BK301 := n1_; have HB := n2_; clear n0_ n1_ n2_; (try clear hb); (try clear hb2); (try clear hk); (try clear hi); (try clear ho0); obtain ⟨Ao18, co18, eo18⟩ := Kd.z1 HO309.out; subst eo18) | ((with_reducible refine zt (f := 58) rfl ?_); refine zN (some 21) rfl rfl Try.func58 (by kernel_rfl) rfl #[.agg #[.int .i64 t304, .int .i64 t305, .int .i64 t306, .slice Ao18 t307.length co18]] rfl sqM ?_; (with_reducible refine (zc.calls kj2 t304 t305 t306 _ _ t307 t310 t311 t312 t313 t316 _ ?side1 ?side2 A15.out).mono ?_); (case side1 => exact sqC (Kd.zC HO309.out).2.2); (case side2 => exact (Kd.zC HO309.out).2.1); rintro e w19 ⟨v314, v317, rfl, ho0, ho1, hb⟩; refine ⟨_, rfl, ?_⟩; have n0_ := Aside0.mk (Kd.zO (Kd.VR (Kd.VR (Kd.zac (sqR HO309.out) hb) (Kd.vr ho0)) (Kd.vr ho1)) (fun _ h_ => h_.1)); have n1_ := Aside0.mk (Kd.qE (Kd.yo ho0 (Kd.ZB (sqR HO309.out))) (zI sqB)); have n2_ := Aside0.mk (Kd.qE (Kd.yo ho1 (Kd.ZB (sqR HO309.out))) (zI sqB)); have n3_ := Aside0.mk (zq (g := gb301) (o := .cells #[.int .i64 a0_0, .int .i64 a0_1, .int .i64 a0_2, .slice A0_3 l0_3.length c0_3] 27 (0, 0)) (sqK BK301.out) hb); have n4_ := Aside0.mk (zj sqB hb); clear HO309; clear BK301; clear HB; have HO309 := n0_; have HO315 := n1_; have HO318 := n2_; have BK301 := n3_; have HB := n4_; clear n0_ n1_ n2_ n3_ n4_; (try clear hb); (try clear hb2); (try clear hk); (try clear hi); (try clear ho0); (try clear ho1)) | ((with_reducible refine zx (N := 5) rfl ?_); refine zy ?hg (N := 5) ?hd (cs := #[.int .i64 0, .int .i64 0, .int .i64 0, .slice none 0 0]) (t := 27) ?hr ?_; (case hd => rfl); (case hg => rfl); (case hr => exact sqG); intro gb319 hg w20 hbox hb; have n0_ := Aside0.mk (Kd.qo (sqR HO309.out) hb); have n1_ := Aside0.mk (Kd.qo (sqR HO315.out) hb); have n2_ := Aside0.mk (Kd.qo (sqR HO318.out) hb); have n3_ := Aside0.mk (zq (g := gb301) (o := .cells #[.int .i64 a0_0, .int .i64 a0_1, .int .i64 a0_2, .slice A0_3 l0_3.length c0_3] 27 (0, 0)) (sqK BK301.out) hb); have n4_ := Aside0.mk (zj sqB hb); have n5_ := Aside0.mk (hbox); have n6_ := Aside0.mk ((sqS hg : w.heap.size ≤ gb319)); have n7_ := Aside0.mk ((sqS hg : w.heap.size ≤ gb319)); have n8_ := Aside0.mk ((by rw [hg]; exact Nat.ne_of_lt (zS (g := gb301) (o := .cells #[.int .i64 a0_0, .int .i64 a0_1, .int .i64 a0_2, .slice A0_3 l0_3.length c0_3] 27 (0, 0)) (sqK BK301.out)) : gb301 ≠ gb319)); have n9_ := Aside0.mk ((by rw [hg]; exact Nat.ne_of_gt (zS (g := gb301) (o := .cells #[.int .i64 a0_0, .int .i64 a0_1, .int .i64 a0_2, .slice A0_3 l0_3.length c0_3] 27 (0, 0)) (sqK BK301.out)) : gb319 ≠ gb301)); clear HO309; clear HO315; clear HO318; clear BK301; clear HB; have HO309 := n0_; have HO315 := n1_; have HO318 := n2_; have BK301 := n3_; have HB := n4_; have BK319 := n5_; have GW319 := n6_; have GE319 := n7_; have NB301_319 := n8_; have NB319_301 := n9_; clear n0_ n1_ n2_ n3_ n4_ n5_ n6_ n7_ n8_ n9_; clear hb hbox hg; have hnb21 := NB319_301.out; have hnc21 := NB301_319.out; have hcz22_0 : w20.cell? ⟨gb319, 0, none⟩ = some (.int .i64 0) := (zb BK319.out 0).trans rfl; have hcz22_1 : w20.cell? ⟨gb319, 1, none⟩ = some (.int .i64 0) := (zb BK319.out 1).trans rfl; have hcz22_2 : w20.cell? ⟨gb319, 2, none⟩ = some (.int .i64 0) := (zb BK319.out 2).trans rfl; have hcz22_3 : w20.cell? ⟨gb319, 3, none⟩ = some (.slice none 0 0) := (zb BK319.out 3).trans rfl; have hfz22_0 := za BK319.out 0; have hfz22_1 := za BK319.out 1; have hfz22_2 := za BK319.out 2; have hfz22_3 := za BK319.out 3; obtain ⟨Ao23, co23, eo23⟩ := Kd.z1 HO315.out; subst eo23; obtain ⟨Ao24, co24, eo24⟩ := Kd.z1 HO318.out; subst eo24))
    go_ret
    exact ⟨sqE, sqB⟩

def qw.f (k : Nat) (a0_0 : Int) (a0_1 : Int) (a0_2 : Int) (l0_3 : List Int) (a1 : Int) : Option (Bool) := (qG.f a0_0 a0_1 a0_2 l0_3 1048576).bind fun t321 => (if t321 < 0 then (some true) else ((zE.f k a0_0 a0_1 a0_2 l0_3).bind fun bt322 => ((qp.f k bt322.1 bt322.2.1 bt322.2.2.1 bt322.2.2.2 a1).bind fun t328 => ((zE.f k a0_0 a0_1 a0_2 l0_3).bind fun bt329 => ((zv.f k bt329.1 bt329.2.1 bt329.2.2.1 bt329.2.2.2 a1).bind fun t336 => (if t336 = t328 then ((zE.f k a0_0 a0_1 a0_2 l0_3).bind fun bt337 => ((qe.f k bt329.1 bt329.2.1 bt329.2.2.1 bt329.2.2.2 bt337.1 bt337.2.1 bt337.2.2.1 bt337.2.2.2).bind fun t343 => (if t343 = true then (some true) else (none)))) else (none)))))))
theorem qw.calls (k : Nat) (a0_0 : Int) (a0_1 : Int) (a0_2 : Int) (A0_3 : Option Addr) (c0_3 : Nat) (l0_3 : List Int) (a1 : Int) (r : Bool) (w : World) (hr0_3 : Kd.C (Kd.int .i64) w A0_3 l0_3.length l0_3) (hc0_3 : l0_3.length ≤ c0_3) (h : qw.f k a0_0 a0_1 a0_2 l0_3 a1 = some r) :
  Calls Try.prog 8 #[.agg #[.int .i64 a0_0, .int .i64 a0_1, .int .i64 a0_2, .slice A0_3 l0_3.length c0_3], .int .i64 a1] w fun e w' => e = .returned (.bool r) ∧ Below w.heap.size w w' := by
 have hu24 := Try.underlying24
 have hu27 := Try.underlying27
 have HR0_3 := Aside0.mk hr0_3
 have HC0_3 := Aside0.mk hc0_3
 clear hr0_3 hc0_3
 have HB := Aside0.mk (Below.refl w.heap.size w)
 have H : ((qG.f a0_0 a0_1 a0_2 l0_3 1048576).bind fun t321 => (if t321 < 0 then (some true) else ((zE.f k a0_0 a0_1 a0_2 l0_3).bind fun bt322 => ((qp.f k bt322.1 bt322.2.1 bt322.2.2.1 bt322.2.2.2 a1).bind fun t328 => ((zE.f k a0_0 a0_1 a0_2 l0_3).bind fun bt329 => ((zv.f k bt329.1 bt329.2.1 bt329.2.2.1 bt329.2.2.2 a1).bind fun t336 => (if t336 = t328 then ((zE.f k a0_0 a0_1 a0_2 l0_3).bind fun bt337 => ((qe.f k bt329.1 bt329.2.1 bt329.2.2.1 bt329.2.2.2 bt337.1 bt337.2.1 bt337.2.2.1 bt337.2.2.2).bind fun t343 => (if t343 = true then (some true) else (none)))) else (none)))))))) = some r := h
 clear h
 replace H := Option.bind_eq_some_iff.mp H
 obtain ⟨t321, A30, H⟩ := H
 replace H : (if t321 < 0 then (some true) else ((zE.f k a0_0 a0_1 a0_2 l0_3).bind fun bt322 => ((qp.f k bt322.1 bt322.2.1 bt322.2.2.1 bt322.2.2.2 a1).bind fun t328 => ((zE.f k a0_0 a0_1 a0_2 l0_3).bind fun bt329 => ((zv.f k bt329.1 bt329.2.1 bt329.2.2.1 bt329.2.2.2 a1).bind fun t336 => (if t336 = t328 then ((zE.f k a0_0 a0_1 a0_2 l0_3).bind fun bt337 => ((qe.f k bt329.1 bt329.2.1 bt329.2.2.1 bt329.2.2.2 bt337.1 bt337.2.1 bt337.2.2.1 bt337.2.2.2).bind fun t343 => (if t343 = true then (some true) else (none)))) else (none))))))) = some r := H
 have A3 := Aside0.mk A30
 clear A30
 by_cases c4 : t321 < 0
 ·rw [if_pos c4] at H
  have c4b0 : decide (t321 < 0) = true := decide_eq_true c4
  clear c4
  obtain rfl := Option.some.inj H
  go_enter Try.func8, Try.ntmps8
  go_wp2_with (first | ((with_reducible refine zx (N := 2) rfl ?_); refine zy ?hg (N := 2) ?hd (cs := #[.int .i64 a0_0, .int .i64 a0_1, .int .i64 a0_2, .slice A0_3 l0_3.length c0_3]) (t := 24) ?hr ?_; (case hd => rfl); (case hg => rfl); (case hr => exact sqG); intro gb320 hg w5 hbox hb; have n0_ := Aside0.mk (zj sqB hb); have n1_ := Aside0.mk (hbox); have n2_ := Aside0.mk ((sqS hg : w.heap.size ≤ gb320)); have n3_ := Aside0.mk ((sqS hg : w.heap.size ≤ gb320)); clear HB; have HB := n0_; have BK320 := n1_; have GW320 := n2_; have GE320 := n3_; clear n0_ n1_ n2_ n3_; clear hb hbox hg; have hcz6_0 : w5.cell? ⟨gb320, 0, none⟩ = some (.int .i64 a0_0) := (zb BK320.out 0).trans rfl; have hcz6_1 : w5.cell? ⟨gb320, 1, none⟩ = some (.int .i64 a0_1) := (zb BK320.out 1).trans rfl; have hcz6_2 : w5.cell? ⟨gb320, 2, none⟩ = some (.int .i64 a0_2) := (zb BK320.out 2).trans rfl; have hcz6_3 : w5.cell? ⟨gb320, 3, none⟩ = some (.slice A0_3 l0_3.length c0_3) := (zb BK320.out 3).trans rfl; have hfz6_0 := za BK320.out 0; have hfz6_1 := za BK320.out 1; have hfz6_2 := za BK320.out 2; have hfz6_3 := za BK320.out 3) | ((with_reducible refine zt (f := 11) rfl ?_); refine zN (some 11) rfl rfl Try.func11 (by kernel_rfl) rfl #[.agg #[.int .i64 a0_0, .int .i64 a0_1, .int .i64 a0_2, .slice A0_3 l0_3.length c0_3], .int .i64 1048576] rfl sqM ?_; (with_reducible refine (qG.calls a0_0 a0_1 a0_2 _ _ l0_3 1048576 t321 _ ?side1 ?side2 A3.out).mono ?_); (case side1 => exact sqC (Kd.z7 HR0_3.out HB.out)); (case side2 => exact HC0_3.out); rintro e w7 ⟨rfl, hb⟩; refine ⟨_, rfl, ?_⟩; have n0_ := Aside0.mk (zq (g := gb320) (o := .cells #[.int .i64 a0_0, .int .i64 a0_1, .int .i64 a0_2, .slice A0_3 l0_3.length c0_3] 24 (0, 0)) (sqK BK320.out) hb); have n1_ := Aside0.mk (zj sqB hb); clear BK320; clear HB; have BK320 := n0_; have HB := n1_; clear n0_ n1_; (try clear hb); (try clear hb2); (try clear hk); (try clear hi)))
  go_ret
  exact ⟨sqE, sqB⟩
 ·rw [if_neg c4] at H
  have c4b0 : decide (t321 < 0) = false := decide_eq_false c4
  clear c4
  replace H := Option.bind_eq_some_iff.mp H
  obtain ⟨⟨t322, t323, t324, t325⟩, A80, H⟩ := H
  replace H : ((qp.f k t322 t323 t324 t325 a1).bind fun t328 => ((zE.f k a0_0 a0_1 a0_2 l0_3).bind fun bt329 => ((zv.f k bt329.1 bt329.2.1 bt329.2.2.1 bt329.2.2.2 a1).bind fun t336 => (if t336 = t328 then ((zE.f k a0_0 a0_1 a0_2 l0_3).bind fun bt337 => ((qe.f k bt329.1 bt329.2.1 bt329.2.2.1 bt329.2.2.2 bt337.1 bt337.2.1 bt337.2.2.1 bt337.2.2.2).bind fun t343 => (if t343 = true then (some true) else (none)))) else (none))))) = some r := H
  have A8 := Aside0.mk A80
  clear A80
  replace H := Option.bind_eq_some_iff.mp H
  obtain ⟨t328, A90, H⟩ := H
  replace H : ((zE.f k a0_0 a0_1 a0_2 l0_3).bind fun bt329 => ((zv.f k bt329.1 bt329.2.1 bt329.2.2.1 bt329.2.2.2 a1).bind fun t336 => (if t336 = t328 then ((zE.f k a0_0 a0_1 a0_2 l0_3).bind fun bt337 => ((qe.f k bt329.1 bt329.2.1 bt329.2.2.1 bt329.2.2.2 bt337.1 bt337.2.1 bt337.2.2.1 bt337.2.2.2).bind fun t343 => (if t343 = true then (some true) else (none)))) else (none)))) = some r := H
  have A9 := Aside0.mk A90
  clear A90
  replace H := Option.bind_eq_some_iff.mp H
  obtain ⟨⟨t329, t330, t331, t332⟩, A100, H⟩ := H
  replace H : ((zv.f k t329 t330 t331 t332 a1).bind fun t336 => (if t336 = t328 then ((zE.f k a0_0 a0_1 a0_2 l0_3).bind fun bt337 => ((qe.f k t329 t330 t331 t332 bt337.1 bt337.2.1 bt337.2.2.1 bt337.2.2.2).bind fun t343 => (if t343 = true then (some true) else (none)))) else (none))) = some r := H
  have A10 := Aside0.mk A100
  clear A100
  replace H := Option.bind_eq_some_iff.mp H
  obtain ⟨t336, A110, H⟩ := H
  replace H : (if t336 = t328 then ((zE.f k a0_0 a0_1 a0_2 l0_3).bind fun bt337 => ((qe.f k t329 t330 t331 t332 bt337.1 bt337.2.1 bt337.2.2.1 bt337.2.2.2).bind fun t343 => (if t343 = true then (some true) else (none)))) else (none)) = some r := H
  have A11 := Aside0.mk A110
  clear A110
  by_cases c12 : t336 = t328
  ·rw [if_pos c12] at H
   have c12b0 : (t336 == t328) = true := beq_iff_eq.mpr c12
   have c12b1 : (t336 != t328) = false := bne_eq_false_iff_eq.mpr c12
   clear c12
   replace H := Option.bind_eq_some_iff.mp H
   obtain ⟨⟨t337, t338, t339, t340⟩, A130, H⟩ := H
   replace H : ((qe.f k t329 t330 t331 t332 t337 t338 t339 t340).bind fun t343 => (if t343 = true then (some true) else (none))) = some r := H
   have A13 := Aside0.mk A130
   clear A130
   replace H := Option.bind_eq_some_iff.mp H
   obtain ⟨t343, A140, H⟩ := H
   replace H : (if t343 = true then (some true) else (none)) = some r := H
   have A14 := Aside0.mk A140
   clear A140
   by_cases c15 : t343 = true
   ·subst c15
    have H1 : (some true) = some r := by rw [if_pos rfl] at H; exact H
    clear H
    have H := H1
    clear H1
    obtain rfl := Option.some.inj H
    go_enter Try.func8, Try.ntmps8
    try go_wp2_with (first | ((with_reducible refine zx (N := 2) rfl ?_); refine zy ?hg (N := 2) ?hd (cs := #[.int .i64 a0_0, .int .i64 a0_1, .int .i64 a0_2, .slice A0_3 l0_3.length c0_3]) (t := 24) ?hr ?_; (case hd => rfl); (case hg => rfl); (case hr => exact sqG); intro gb320 hg w16 hbox hb; have n0_ := Aside0.mk (zj sqB hb); have n1_ := Aside0.mk (hbox); have n2_ := Aside0.mk ((sqS hg : w.heap.size ≤ gb320)); have n3_ := Aside0.mk ((sqS hg : w.heap.size ≤ gb320)); clear HB; have HB := n0_; have BK320 := n1_; have GW320 := n2_; have GE320 := n3_; clear n0_ n1_ n2_ n3_; clear hb hbox hg; have hcz17_0 : w16.cell? ⟨gb320, 0, none⟩ = some (.int .i64 a0_0) := (zb BK320.out 0).trans rfl; have hcz17_1 : w16.cell? ⟨gb320, 1, none⟩ = some (.int .i64 a0_1) := (zb BK320.out 1).trans rfl; have hcz17_2 : w16.cell? ⟨gb320, 2, none⟩ = some (.int .i64 a0_2) := (zb BK320.out 2).trans rfl; have hcz17_3 : w16.cell? ⟨gb320, 3, none⟩ = some (.slice A0_3 l0_3.length c0_3) := (zb BK320.out 3).trans rfl; have hfz17_0 := za BK320.out 0; have hfz17_1 := za BK320.out 1; have hfz17_2 := za BK320.out 2; have hfz17_3 := za BK320.out 3) | ((with_reducible refine zt (f := 11) rfl ?_); refine zN (some 11) rfl rfl Try.func11 (by kernel_rfl) rfl #[.agg #[.int .i64 a0_0, .int .i64 a0_1, .int .i64 a0_2, .slice A0_3 l0_3.length c0_3], .int .i64 1048576] rfl sqM ?_; (with_reducible refine (qG.calls a0_0 a0_1 a0_2 _ _ l0_3 1048576 t321 _ ?side1 ?side2 A3.out).mono ?_); (case side1 => exact sqC (Kd.z7 HR0_3.out HB.out)); (case side2 => exact HC0_3.out); rintro e w18 ⟨rfl, hb⟩; refine ⟨_, rfl, ?_⟩; have n0_ := Aside0.mk (zq (g := gb320) (o := .cells #[.int .i64 a0_0, .int .i64 a0_1, .int .i64 a0_2, .slice A0_3 l0_3.length c0_3] 24 (0, 0)) (sqK BK320.out) hb); have n1_ := Aside0.mk (zj sqB hb); clear BK320; clear HB; have BK320 := n0_; have HB := n1_; clear n0_ n1_; (try clear hb); (try clear hb2); (try clear hk); (try clear hi); have hcz19_0 : w18.cell? ⟨gb320, 0, none⟩ = some (.int .i64 a0_0) := (zb BK320.out 0).trans rfl; have hcz19_1 : w18.cell? ⟨gb320, 1, none⟩ = some (.int .i64 a0_1) := (zb BK320.out 1).trans rfl; have hcz19_2 : w18.cell? ⟨gb320, 2, none⟩ = some (.int .i64 a0_2) := (zb BK320.out 2).trans rfl; have hcz19_3 : w18.cell? ⟨gb320, 3, none⟩ = some (.slice A0_3 l0_3.length c0_3) := (zb BK320.out 3).trans rfl; have hfz19_0 := za BK320.out 0; have hfz19_1 := za BK320.out 1; have hfz19_2 := za BK320.out 2; have hfz19_3 := za BK320.out 3) | ((with_reducible refine zt (f := 13) rfl ?_); refine zN (some 15) rfl rfl Try.func13 (by kernel_rfl) rfl #[.agg #[.int .i64 a0_0, .int .i64 a0_1, .int .i64 a0_2, .slice A0_3 l0_3.length c0_3]] rfl sqM ?_; (with_reducible refine (zE.calls k a0_0 a0_1 a0_2 _ _ l0_3 t322 t323 t324 t325 _ ?side1 ?side2 A8.out).mono ?_); (case side1 => exact sqC (Kd.z7 HR0_3.out HB.out)); (case side2 => exact HC0_3.out); rintro e w20 ⟨v326, rfl, ho0, hb⟩; refine ⟨_, rfl, ?_⟩; have n0_ := Aside0.mk (Kd.qE ho0 (zI sqB)); have n1_ := Aside0.mk (zq (g := gb320) (o := .cells #[.int .i64 a0_0, .int .i64 a0_1, .int .i64 a0_2, .slice A0_3 l0_3.length c0_3] 24 (0, 0)) (sqK BK320.out) hb); have n2_ := Aside0.mk (zj sqB hb); clear BK320; clear HB; have HO327 := n0_; have BK320 := n1_; have HB := n2_; clear n0_ n1_ n2_; (try clear hb); (try clear hb2); (try clear hk); (try clear hi); (try clear ho0); obtain ⟨Ao21, co21, eo21⟩ := Kd.z1 HO327.out; subst eo21) | ((with_reducible refine zt (f := 30) rfl ?_); refine zN (some 17) rfl rfl Try.func30 (by kernel_rfl) rfl #[.agg #[.int .i64 t322, .int .i64 t323, .int .i64 t324, .slice Ao21 t325.length co21], .int .i64 a1] rfl sqM ?_; (with_reducible refine (qp.calls k t322 t323 t324 _ _ t325 a1 t328 _ ?side1 ?side2 A9.out).mono ?_); (case side1 => exact sqC (Kd.zC HO327.out).2.2); (case side2 => exact (Kd.zC HO327.out).2.1); rintro e w22 ⟨rfl, hb⟩; refine ⟨_, rfl, ?_⟩; have n0_ := Aside0.mk (Kd.qo (sqR HO327.out) hb); have n1_ := Aside0.mk (zq (g := gb320) (o := .cells #[.int .i64 a0_0, .int .i64 a0_1, .int .i64 a0_2, .slice A0_3 l0_3.length c0_3] 24 (0, 0)) (sqK BK320.out) hb); have n2_ := Aside0.mk (zj sqB hb); clear HO327; clear BK320; clear HB; have HO327 := n0_; have BK320 := n1_; have HB := n2_; clear n0_ n1_ n2_; (try clear hb); (try clear hb2); (try clear hk); (try clear hi); have hcz23_0 : w22.cell? ⟨gb320, 0, none⟩ = some (.int .i64 a0_0) := (zb BK320.out 0).trans rfl; have hcz23_1 : w22.cell? ⟨gb320, 1, none⟩ = some (.int .i64 a0_1) := (zb BK320.out 1).trans rfl; have hcz23_2 : w22.cell? ⟨gb320, 2, none⟩ = some (.int .i64 a0_2) := (zb BK320.out 2).trans rfl; have hcz23_3 : w22.cell? ⟨gb320, 3, none⟩ = some (.slice A0_3 l0_3.length c0_3) := (zb BK320.out 3).trans rfl; have hfz23_0 := za BK320.out 0; have hfz23_1 := za BK320.out 1; have hfz23_2 := za BK320.out 2; have hfz23_3 := za BK320.out 3) | ((with_reducible refine zt (f := 13) rfl ?_); refine zN (some 19) rfl rfl Try.func13 (by kernel_rfl) rfl #[.agg #[.int .i64 a0_0, .int .i64 a0_1, .int .i64 a0_2, .slice A0_3 l0_3.length c0_3]] rfl sqM ?_; (with_reducible refine (zE.calls k a0_0 a0_1 a0_2 _ _ l0_3 t329 t330 t331 t332 _ ?side1 ?side2 A10.out).mono ?_); (case side1 => exact sqC (Kd.z7 HR0_3.out HB.out)); (case side2 => exact HC0_3.out); rintro e w24 ⟨v333, rfl, ho0, hb⟩; refine ⟨_, rfl, ?_⟩; have n0_ := Aside0.mk (Kd.vy (sqR HO327.out) (Kd.vr ho0) hb); have n1_ := Aside0.mk (Kd.qE (Kd.yo ho0 (Kd.ZB (sqR HO327.out))) (zI sqB)); have n2_ := Aside0.mk (zq (g := gb320) (o := .cells #[.int .i64 a0_0, .int .i64 a0_1, .int .i64 a0_2, .slice A0_3 l0_3.length c0_3] 24 (0, 0)) (sqK BK320.out) hb); have n3_ := Aside0.mk (zj sqB hb); clear HO327; clear BK320; clear HB; have HO327 := n0_; have HO334 := n1_; have BK320 := n2_; have HB := n3_; clear n0_ n1_ n2_ n3_; (try clear hb); (try clear hb2); (try clear hk); (try clear hi); (try clear ho0)) | ((with_reducible refine zx (N := 7) rfl ?_); refine zy ?hg (N := 7) ?hd (cs := #[.int .i64 0, .int .i64 0, .int .i64 0, .slice none 0 0]) (t := 27) ?hr ?_; (case hd => rfl); (case hg => rfl); (case hr => exact sqG); intro gb335 hg w25 hbox hb; have n0_ := Aside0.mk (Kd.qo (sqR HO327.out) hb); have n1_ := Aside0.mk (Kd.qo (sqR HO334.out) hb); have n2_ := Aside0.mk (zq (g := gb320) (o := .cells #[.int .i64 a0_0, .int .i64 a0_1, .int .i64 a0_2, .slice A0_3 l0_3.length c0_3] 24 (0, 0)) (sqK BK320.out) hb); have n3_ := Aside0.mk (zj sqB hb); have n4_ := Aside0.mk (hbox); have n5_ := Aside0.mk ((sqS hg : w.heap.size ≤ gb335)); have n6_ := Aside0.mk ((sqS hg : w.heap.size ≤ gb335)); have n7_ := Aside0.mk ((by rw [hg]; exact Nat.ne_of_lt (zS (g := gb320) (o := .cells #[.int .i64 a0_0, .int .i64 a0_1, .int .i64 a0_2, .slice A0_3 l0_3.length c0_3] 24 (0, 0)) (sqK BK320.out)) : gb320 ≠ gb335)); have n8_ := Aside0.mk ((by rw [hg]; exact Nat.ne_of_gt (zS (g := gb320) (o := .cells #[.int .i64 a0_0, .int .i64 a0_1, .int .i64 a0_2, .slice A0_3 l0_3.length c0_3] 24 (0, 0)) (sqK BK320.out)) : gb335 ≠ gb320)); clear HO327; clear HO334; clear BK320; clear HB; have HO327 := n0_; have HO334 := n1_; have BK320 := n2_; have HB := n3_; have BK335 := n4_; have GW335 := n5_; have GE335 := n6_; have NB320_335 := n7_; have NB335_320 := n8_; clear n0_ n1_ n2_ n3_ n4_ n5_ n6_ n7_ n8_; clear hb hbox hg; have hnb26 := NB335_320.out; have hnc26 := NB320_335.out; have hcz27_0 : w25.cell? ⟨gb335, 0, none⟩ = some (.int .i64 0) := (zb BK335.out 0).trans rfl; have hcz27_1 : w25.cell? ⟨gb335, 1, none⟩ = some (.int .i64 0) := (zb BK335.out 1).trans rfl; have hcz27_2 : w25.cell? ⟨gb335, 2, none⟩ = some (.int .i64 0) := (zb BK335.out 2).trans rfl; have hcz27_3 : w25.cell? ⟨gb335, 3, none⟩ = some (.slice none 0 0) := (zb BK335.out 3).trans rfl; have hfz27_0 := za BK335.out 0; have hfz27_1 := za BK335.out 1; have hfz27_2 := za BK335.out 2; have hfz27_3 := za BK335.out 3; obtain ⟨Ao28, co28, eo28⟩ := Kd.z1 HO334.out; subst eo28) | ((with_reducible refine zt (f := 31) rfl ?_); refine zN (some 22) rfl rfl Try.func31 (by kernel_rfl) rfl #[.agg #[.int .i64 t329, .int .i64 t330, .int .i64 t331, .slice Ao28 t332.length co28], .int .i64 a1] rfl sqM ?_; (with_reducible refine (zv.calls k t329 t330 t331 _ _ t332 a1 t336 _ ?side1 ?side2 A11.out).mono ?_); (case side1 => refine (Kd.zC (e := 3) (base := w.heap.size) (ok := fun k_ => (True ∧ some k_ ≠ (.slice Ao21 t325.length co21 : Value).ownBlock)) (n := t332.length) (c := co28) ?_).2.2; exact (by refine sqR ?_; exact (Kd.zO (Kd.zP (p := ⟨gb335, 3, none⟩) (Kd.zP (p := ⟨gb335, 2, none⟩) (Kd.zP (p := ⟨gb335, 1, none⟩) (Kd.zP (p := ⟨gb335, 0, none⟩) (Kd.qt HO334.out BK335.out (by decide)) (fun _ hk => hk.2) (.int .i64 t329)) (fun _ hk => hk.2) (.int .i64 t330)) (fun _ hk => hk.2) (.int .i64 t331)) (fun _ hk => hk.2) (.slice Ao28 t332.length co28)) (fun _ h_ => h_.1)))); (case side2 => exact (Kd.zC HO334.out).2.1); rintro e w29 ⟨rfl, hb⟩; refine ⟨_, rfl, ?_⟩; have n0_ := Aside0.mk (Kd.qo (by refine sqR ?_; exact (Kd.zO (Kd.zP (p := ⟨gb335, 3, none⟩) (Kd.zP (p := ⟨gb335, 2, none⟩) (Kd.zP (p := ⟨gb335, 1, none⟩) (Kd.zP (p := ⟨gb335, 0, none⟩) (Kd.qt HO327.out BK335.out (by decide)) (fun _ hk => hk.2) (.int .i64 t329)) (fun _ hk => hk.2) (.int .i64 t330)) (fun _ hk => hk.2) (.int .i64 t331)) (fun _ hk => hk.2) (.slice Ao28 t332.length co28)) (fun _ h_ => h_.1))) hb); have n1_ := Aside0.mk (Kd.qo (by refine sqR ?_; exact (Kd.zO (Kd.zP (p := ⟨gb335, 3, none⟩) (Kd.zP (p := ⟨gb335, 2, none⟩) (Kd.zP (p := ⟨gb335, 1, none⟩) (Kd.zP (p := ⟨gb335, 0, none⟩) (Kd.qt HO334.out BK335.out (by decide)) (fun _ hk => hk.2) (.int .i64 t329)) (fun _ hk => hk.2) (.int .i64 t330)) (fun _ hk => hk.2) (.int .i64 t331)) (fun _ hk => hk.2) (.slice Ao28 t332.length co28)) (fun _ h_ => h_.1))) hb); have n2_ := Aside0.mk (zq (g := gb320) (o := .cells #[.int .i64 a0_0, .int .i64 a0_1, .int .i64 a0_2, .slice A0_3 l0_3.length c0_3] 24 (0, 0)) (by refine sqK ?_; refine zB ?_ NB320_335.out _; refine sqK ?_; refine zB ?_ NB320_335.out _; refine sqK ?_; refine zB ?_ NB320_335.out _; refine sqK ?_; refine zB ?_ NB320_335.out _; refine sqK ?_; exact BK320.out) hb); have n3_ := Aside0.mk (zq (g := gb335) (o := .cells #[.int .i64 t329, .int .i64 t330, .int .i64 t331, .slice Ao28 t332.length co28] 27 (0, 0)) (by refine sqK ?_; refine zG (cs := #[.int .i64 t329, .int .i64 t330, .int .i64 t331, .slice none 0 0]) ?_ 3 _ rfl; refine sqK ?_; refine zG (cs := #[.int .i64 t329, .int .i64 t330, .int .i64 0, .slice none 0 0]) ?_ 2 _ rfl; refine sqK ?_; refine zG (cs := #[.int .i64 t329, .int .i64 0, .int .i64 0, .slice none 0 0]) ?_ 1 _ rfl; refine sqK ?_; refine zG (cs := #[.int .i64 0, .int .i64 0, .int .i64 0, .slice none 0 0]) ?_ 0 _ rfl; refine sqK ?_; exact BK335.out) hb); have n4_ := Aside0.mk (zj sqB hb); clear HO327; clear HO334; clear BK320; clear BK335; clear HB; have HO327 := n0_; have HO334 := n1_; have BK320 := n2_; have BK335 := n3_; have HB := n4_; clear n0_ n1_ n2_ n3_ n4_; (try clear hb); (try clear hb2); (try clear hk); (try clear hi)))
    have n0_ := Aside0.mk (Kd.jt HO327.out)
    have n1_ := Aside0.mk (Kd.jt HO334.out)
    have n2_ := Aside0.mk (qn BK320.out)
    have n3_ := Aside0.mk (qn BK335.out)
    have n4_ := Aside0.mk (zL HB.out)
    clear HO327 HO334 BK320 BK335 HB; have HO327 := n0_; have HO334 := n1_; have BK320 := n2_; have BK335 := n3_; have HB := n4_; clear n0_ n1_ n2_ n3_ n4_
    refine jU (n := 5) (S := fun w' => w'.cell? ⟨gb335, 0, none⟩ = some (.int .i64 t329) ∧ w'.cell? ⟨gb335, 1, none⟩ = some (.int .i64 t330) ∧ w'.cell? ⟨gb335, 2, none⟩ = some (.int .i64 t331) ∧ w'.cell? ⟨gb335, 3, none⟩ = some (.slice Ao28 t332.length co28) ∧ w'.cell? ⟨gb320, 0, none⟩ = some (.int .i64 a0_0) ∧ w'.cell? ⟨gb320, 1, none⟩ = some (.int .i64 a0_1) ∧ w'.cell? ⟨gb320, 2, none⟩ = some (.int .i64 a0_2) ∧ w'.cell? ⟨gb320, 3, none⟩ = some (.slice A0_3 l0_3.length c0_3)) (ds := []) #[false, false, false, false, false] (by kernel_rfl) rfl rfl ⟨(zb BK335.out 0).trans rfl, (zb BK335.out 1).trans rfl, (zb BK335.out 2).trans rfl, (zb BK335.out 3).trans rfl, (zb BK320.out 0).trans rfl, (zb BK320.out 1).trans rfl, (zb BK320.out 2).trans rfl, (zb BK320.out 3).trans rfl⟩ (fun hHeld => ?_)
    generalize w29.drew = w30 at HO327 HO334 BK320 BK335 HB hHeld ⊢
    refine qa (i := 0) (N := some 26) (v := ?_) (a' := ?_) #[true, false, false, false, false] rfl rfl (by kernel_rfl) (fun _ _ _ h => h) (Or.inl ⟨by rfl, ?_⟩) hHeld ?_ ?_
    rotate_left
    ·rintro w' ⟨s0, s1, s2, s3, s4, s5, s6, s7⟩; go_simp; with_reducible rfl
    rotate_left
    ·simp only [Act.put, List.setIfInBounds_toArray, List.set_cons_zero, List.set_cons_succ, zd, zf]; rfl
    refine qa (i := 1) (N := some 27) (v := ?_) (a' := ?_) #[true, true, false, false, false] rfl rfl (by kernel_rfl) (fun _ _ _ h => h) (Or.inl ⟨by rfl, ?_⟩) hHeld ?_ ?_
    rotate_left
    ·rintro w' ⟨s0, s1, s2, s3, s4, s5, s6, s7⟩; go_simp; with_reducible rfl
    rotate_left
    ·simp only [Act.put, List.setIfInBounds_toArray, List.set_cons_zero, List.set_cons_succ, zd, zf]; rfl
    refine ZP (i := 2) (N := some 28) #[true, true, true, false, false] rfl rfl (by kernel_rfl) (by decide) (fun K hK => ?_)
    refine Z0 Try.func13 (by kernel_rfl) rfl #[.agg #[.int .i64 a0_0, .int .i64 a0_1, .int .i64 a0_2, .slice A0_3 l0_3.length c0_3]] (by rfl) rfl rfl sqM ?_
    with_reducible refine (zE.calls k a0_0 a0_1 a0_2 _ _ l0_3 t337 t338 t339 t340 _ ?side1 ?side2 A13.out).mono ?_
    (case side1 => exact sqC (Kd.z7 HR0_3.out HB.out))
    (case side2 => exact HC0_3.out)
    rintro e w31 ⟨v341, rfl, ho0, hb⟩
    refine ⟨_, rfl, ?_⟩
    have n0_ := Aside0.mk (Kd.vy (sqR HO327.out) (Kd.vr ho0) hb)
    have n1_ := Aside0.mk (Kd.vy (sqR HO334.out) (Kd.vr ho0) hb)
    have n2_ := Aside0.mk (Kd.qE (Kd.yo (Kd.yo ho0 (Kd.ZB (sqR HO327.out))) (Kd.ZB (sqR HO334.out))) (zI sqB))
    have n3_ := Aside0.mk (zq (g := gb320) (o := .cells #[.int .i64 a0_0, .int .i64 a0_1, .int .i64 a0_2, .slice A0_3 l0_3.length c0_3] 24 (0, 0)) (sqK BK320.out) hb)
    have n4_ := Aside0.mk (zq (g := gb335) (o := .cells #[.int .i64 t329, .int .i64 t330, .int .i64 t331, .slice Ao28 t332.length co28] 27 (0, 0)) (sqK BK335.out) hb)
    have n5_ := Aside0.mk (zj sqB hb)
    clear HO327 HO334 BK320 BK335 HB; have HO327 := n0_; have HO334 := n1_; have HO342 := n2_; have BK320 := n3_; have BK335 := n4_; have HB := n5_; clear n0_ n1_ n2_ n3_ n4_ n5_; (try clear hb); (try clear hb2); (try clear hk); (try clear hi); (try clear ho0)
    obtain ⟨Ao32, co32, eo32⟩ := Kd.z1 HO342.out
    (first | subst eo32 | (injection eo32 with f1_ f2_ f3_; have f4_ := f1_.symm; have f5_ := f3_.symm; clear f1_ f2_ f3_; subst f4_; subst f5_))
    refine hK.out _ _ ⟨(zb BK335.out 0).trans rfl, (zb BK335.out 1).trans rfl, (zb BK335.out 2).trans rfl, (zb BK335.out 3).trans rfl, (zb BK320.out 0).trans rfl, (zb BK320.out 1).trans rfl, (zb BK320.out 2).trans rfl, (zb BK320.out 3).trans rfl⟩ (fun hHeld => ?_)
    clear hK K
    refine yC (a' := ?_) ?_ ?_
    rotate_left
    ·show Act.put _ (some 28) _ = _; simp only [Act.put, List.setIfInBounds_toArray, List.set_cons_zero, List.set_cons_succ, zd, zf]; rfl
    refine ZP (i := 3) (N := some 29) #[true, true, true, true, false] rfl rfl (by kernel_rfl) (by decide) (fun K hK => ?_)
    refine Z0 Try.func15 (by kernel_rfl) rfl #[.agg #[.int .i64 t329, .int .i64 t330, .int .i64 t331, .slice Ao28 t332.length co28], .agg #[.int .i64 t337, .int .i64 t338, .int .i64 t339, .slice Ao32 t340.length co32]] (by rfl) rfl rfl sqM ?_
    with_reducible refine (qe.calls k t329 t330 t331 _ _ t332 t337 t338 t339 _ _ t340 true _ ?side1 ?side2 ?side3 ?side4 A14.out).mono ?_
    (case side1 => exact sqC (Kd.zC HO334.out).2.2)
    (case side2 => exact (Kd.zC HO334.out).2.1)
    (case side3 => exact sqC (Kd.zC HO342.out).2.2)
    (case side4 => exact (Kd.zC HO342.out).2.1)
    rintro e w33 ⟨rfl, hb⟩
    refine ⟨_, rfl, ?_⟩
    have n0_ := Aside0.mk (Kd.qo (sqR HO327.out) hb)
    have n1_ := Aside0.mk (Kd.qo (sqR HO334.out) hb)
    have n2_ := Aside0.mk (Kd.qo (sqR HO342.out) hb)
    have n3_ := Aside0.mk (zq (g := gb320) (o := .cells #[.int .i64 a0_0, .int .i64 a0_1, .int .i64 a0_2, .slice A0_3 l0_3.length c0_3] 24 (0, 0)) (sqK BK320.out) hb)
    have n4_ := Aside0.mk (zq (g := gb335) (o := .cells #[.int .i64 t329, .int .i64 t330, .int .i64 t331, .slice Ao28 t332.length co28] 27 (0, 0)) (sqK BK335.out) hb)
    have n5_ := Aside0.mk (zj sqB hb)
    clear HO327 HO334 HO342 BK320 BK335 HB; have HO327 := n0_; have HO334 := n1_; have HO342 := n2_; have BK320 := n3_; have BK335 := n4_; have HB := n5_; clear n0_ n1_ n2_ n3_ n4_ n5_; (try clear hb); (try clear hb2); (try clear hk); (try clear hi)
    refine hK.out _ _ ⟨(zb BK335.out 0).trans rfl, (zb BK335.out 1).trans rfl, (zb BK335.out 2).trans rfl, (zb BK335.out 3).trans rfl, (zb BK320.out 0).trans rfl, (zb BK320.out 1).trans rfl, (zb BK320.out 2).trans rfl, (zb BK320.out 3).trans rfl⟩ (fun hHeld => ?_)
    clear hK K
    refine yC (a' := ?_) ?_ ?_
    rotate_left
    ·show Act.put _ (some 29) _ = _; simp only [Act.put, List.setIfInBounds_toArray, List.set_cons_zero, List.set_cons_succ, zd, zf]; rfl
    refine zo (i := 4) (N := some 30) (v := ?_) (a' := ?_) #[true, true, true, true, true] rfl rfl (by kernel_rfl) (fun _ _ _ h => h) (Or.inl ⟨by rfl, ?_⟩) ?_ ?_
    rotate_left
    ·intro w'; go_simp; with_reducible rfl
    rotate_left
    ·simp only [Act.put, List.setIfInBounds_toArray, List.set_cons_zero, List.set_cons_succ, zd, zf]; rfl
    refine vM (by kernel_rfl) ?_
    try go_wp2
    go_ret
    exact ⟨sqE, sqB⟩
   ·replace c15 := Bool.eq_false_iff.mpr c15
    subst c15
    have H1 : (none) = some r := by rw [if_neg (show ¬ (false = true) by decide)] at H; exact H
    clear H
    have H := H1
    clear H1
    exact absurd H (by simp)
  ·rw [if_neg c12] at H
   exact absurd H (by simp)

end Go.Proofs.Ytopkfhnnapncgaa.F
end
section
namespace Go.Proofs.Ytopkfhnnapncgaa.F
open Go.RowKit Go.Proofs.YtopkfhnnapncgaaW.PrintWords Go.Proofs.YtopkfhnnapncgaaW.PrintLast Go.Proofs.YtopkfhnnapncgaaW.PrintMore
attribute [local go_sem] jP jR vl vm ju jv jO jN   -- for this text's walks alone
set_option linter.unusedVariables false
set_option linter.unusedSimpArgs false

def qg.l0 : Nat → List Int → Int → Int → Option (Int × List Int)
 | 0, _, _, _ => none
 | k + 1, x0, x1, x5 => if x5 < (x0.length : Int) then (if 0 ≤ x5 then (qg.l0 k (x0.set (x5 : Int).toNat x1) (wrap64 (x1 + 1)) (wrap64 (x5 + 1))) else (none)) else (some (x1, x0))
def qg.f (k : Nat) (l0 : List Int) (a1 : Int) : Option (Int × List Int) := qg.l0 k l0 a1 0
theorem qg.calls (k : Nat) (P0_ : Nat → Prop) (u9000_ : Value) (l0 : List Int) (a1 : Int) (r1 : Int) (r2 : List Int) (w0 w : World) (hB : Below w0.heap.size w0 w) (ho0 : Kd.R (Kd.int .i64) 3 w w0.heap.size P0_ u9000_ l0) (h : qg.f k l0 a1 = some (r1, r2)) :
  Calls Try.prog 53 #[u9000_, .int .i64 a1] w fun e w' => e = .returned (.int .i64 r1) ∧ Kd.R (Kd.int .i64) 3 w' w0.heap.size (fun k_ => (P0_ k_ ∨ w.heap.size ≤ k_)) u9000_ r2 ∧ Below w0.heap.size w0 w' ∧ Kept w w' (fun k_ => P0_ k_) := by
 have HO0 := Aside0.mk (show Kd.R (Kd.int .i64) 3 w w0.heap.size (fun k_ => (P0_ k_ ∨ w.heap.size ≤ k_)) u9000_ l0 from Kd.zO ho0 (fun k_ hk => (.inl hk)))
 have HK := Aside0.mk (Kept.refl w (fun k_ => P0_ k_))
 have HW0 := Aside0.mk hB.size
 have HB := Aside0.mk hB
 clear hB
 have H : (qg.l0 k l0 a1 0) = some (r1, r2) := h
 clear h
 have H' := Aside0.mk H
 clear H
 go_enter Try.func53, Try.ntmps53
 go_wp2
 go_loopg [1, 5] k (fun kq v1 v5 w' => ∃ (x0_1 : List Int) (x1_1 : Int) (x5_1 : Int), v1 = .int .i64 x1_1 ∧ v5 = .int .i64 x5_1 ∧ Aside0 (qg.l0 kq x0_1 x1_1 x5_1 = some (r1, r2)) ∧ Aside0 (kq ≤ k) ∧ Aside0 (Kd.R (Kd.int .i64) 3 w' w0.heap.size (fun k_ => (P0_ k_ ∨ w.heap.size ≤ k_)) u9000_ x0_1) ∧ Aside0 (Kept w w' (fun k_ => P0_ k_)) ∧ Aside0 (Below w0.heap.size w0 w'))
 case atStart => exact ⟨(l0), (a1), (0), (sqD), (sqD), H', ⟨Nat.le_refl _⟩, ⟨sqR HO0.out⟩, ⟨by repeat (first | (with_reducible first | exact HK.out | apply Kept.alloc | apply Kept.drewN | apply Kept.drew) | exact HK.out)⟩, ⟨sqB⟩⟩
 case round =>
  clear H'
  try clear p2
  obtain ⟨x0_1, x1_1, x5_1, rfl, rfl, HA, HK1, HO_0, HK, HB⟩ := hrel
  cases gk with
  | zero => exact absurd HA.out (by simp [qg.l0])
  | succ k1 =>
   have H := HA.out
   clear HA
   simp only [qg.l0] at H
   by_cases c3 : x5_1 < (x0_1.length : Int)
   ·rw [if_pos c3] at H
    have c3b0 : decide (x5_1 < (x0_1.length : Int)) = true := decide_eq_true c3
    clear c3
    by_cases c4 : 0 ≤ x5_1
    ·rw [if_pos c4] at H
     have c4b0 : decide (0 ≤ x5_1) = true := decide_eq_true c4
     clear c4
     obtain ⟨y119, hy119⟩ : ∃ y_ : List Int, y_ = (x0_1.set (x5_1 : Int).toNat x1_1) := ⟨_, rfl⟩
     replace H : (qg.l0 k1 y119 (wrap64 (x1_1 + 1)) (wrap64 (x5_1 + 1))) = some (r1, r2) := by first | (rw [hy119]; with_reducible exact H) | (have H2_ := (Option.bind_some _ _).symm.trans H; rw [hy119]; with_reducible exact H2_) | (have H2_ := (Option.bind_some _ _).symm.trans H; with_reducible exact H2_) | with_reducible exact H | (rw [hy119]; exact H) | exact H
     have Ny119 := Aside0.mk hy119
     clear hy119
     have H' := Aside0.mk H
     clear H
     obtain ⟨Ao6, co6, eo6⟩ := Kd.z1 HO_0.out
     subst eo6
     have p5 : 0 ≤ (x5_1 : Int) := of_decide_eq_true sqA
     have q5 : (x5_1 : Int) < ((x0_1.length : Int) : Int) := of_decide_eq_true sqA
     obtain ⟨go5, co5, eo5, gb5, gl5, cl5, HG5⟩ := Kd.vu HO_0.out (by omega)
     (first | cases eo5 | (injection eo5 with ea_ en_ ec_; (first | subst ea_ | (injection ea_ with ea_; subst ea_)); subst ec_; clear en_))
     (try simp only [add_plain] at *)
     have GB5 := Aside0.mk gb5
     have GG5 := Aside0.mk HG5
     clear gb5 gl5 HG5
     have HMgo5 := Aside0.mk (show (P0_ go5 ∨ w.heap.size ≤ go5) from (HO_0.out.1 _ rfl))
     obtain ⟨hx5_0, hf5_0⟩ := Kd.jk 0 HO_0.out (x5_1 : Int) p5 q5
     replace p5 := eq_true p5
     replace q5 := eq_true q5
     have HP7 := Kd.yt HO_0.out (x5_1 : Int) x1_1
     go_wp2_with (first | ((with_reducible refine jF (t := 3) (p := 15) rfl ?_); refine jx (t := 3) (p := 15) (v := ?vo_w8) (w1 := (wr.setCell ⟨go5, (x5_1 : Int).toNat, none⟩ (.int .i64 x1_1))) ?hg ?ho ?hn ?hr ?_; (case ho => rfl); (case hg => rfl); (case hn => rfl); (case hr => exact sqG); intro w8 hw; have hg : wr.grownBy w8 (some go5) := (by rw [hw]; exact HP7.2); have hp_ : Kd.R (Kd.int .i64) 3 w8 w0.heap.size (fun k_ => (P0_ k_ ∨ w.heap.size ≤ k_)) (.slice (some ⟨go5, 0, none⟩) x0_1.length co6) y119 := (by rw [hw, Ny119.out]; exact HP7.1); clear HP7; have n0_ := Aside0.mk (hp_); have n1_ := Aside0.mk ((by rw [hw]; exact zM (HB.out) GB5.out : Below w0.heap.size w0 w8)); have n2_ := Aside0.mk (Kept.ZA (S := (fun k_ => P0_ k_)) hg (by repeat (first | (with_reducible first | exact HK.out | apply Kept.alloc | apply Kept.drewN | apply Kept.drew) | exact HK.out)) (fun k_ e_ => (HO_0.out.1 k_ e_))); clear HO_0; clear HB; clear HK; have HO_0 := n0_; have HB := n1_; have HK := n2_; clear n0_ n1_ n2_; clear hg hw hp_))
     go_roundg k1
     case measure => have := HK1.out; omega
     case rel => exact ⟨(y119), (wrap64 (x1_1 + 1)), (wrap64 (x5_1 + 1)), (sqD), (sqD), H', ⟨by have := HK1.out; omega⟩, ⟨sqR HO_0.out⟩, ⟨by repeat (first | (with_reducible first | exact HK.out | apply Kept.alloc | apply Kept.drewN | apply Kept.drew) | exact HK.out)⟩, ⟨sqB⟩⟩
    ·rw [if_neg c4] at H
     exact absurd H (by simp)
   ·rw [if_neg c3] at H
    have c3b0 : decide (x5_1 < (x0_1.length : Int)) = false := decide_eq_false c3
    clear c3
    simp only [Option.some.injEq, Prod.mk.injEq] at H
    obtain ⟨rfl, rfl⟩ := H
    obtain ⟨Ao9, co9, eo9⟩ := Kd.z1 HO_0.out
    subst eo9
    go_wp2
    go_ret
    exact ⟨sqE, sqR HO_0.out, sqB, by repeat (first | (with_reducible first | exact HK.out | apply Kept.alloc | apply Kept.drewN | apply Kept.drew) | exact HK.out)⟩

def vO.f (k : Nat) (a0_0 : Int) (a0_1 : Int) (a0_2 : Int) (l0_3 : List Int) (a1 : Int) : Option (Int × List Int) := (qg.f k l0_3 a1).bind fun bt121 => (some (bt121.1, bt121.2))
theorem vO.calls (k : Nat) (a0_0 : Int) (a0_1 : Int) (a0_2 : Int) (P0_3_ : Nat → Prop) (u9000_ : Value) (l0_3 : List Int) (a1 : Int) (r1 : Int) (r2 : List Int) (w0 w : World) (hB : Below w0.heap.size w0 w) (ho0_3 : Kd.R (Kd.int .i64) 3 w w0.heap.size P0_3_ u9000_ l0_3) (h : vO.f k a0_0 a0_1 a0_2 l0_3 a1 = some (r1, r2)) :
  Calls Try.prog 26 #[.agg #[.int .i64 a0_0, .int .i64 a0_1, .int .i64 a0_2, u9000_], .int .i64 a1] w fun e w' => e = .returned (.int .i64 r1) ∧ Kd.R (Kd.int .i64) 3 w' w0.heap.size (fun k_ => (P0_3_ k_ ∨ w.heap.size ≤ k_)) u9000_ r2 ∧ Below w0.heap.size w0 w' ∧ Kept w w' (fun k_ => P0_3_ k_) := by
 have hu27 := Try.underlying27
 have HO0_3 := Aside0.mk (show Kd.R (Kd.int .i64) 3 w w0.heap.size (fun k_ => (P0_3_ k_ ∨ w.heap.size ≤ k_)) u9000_ l0_3 from Kd.zO ho0_3 (fun k_ hk => (.inl hk)))
 have HK := Aside0.mk (Kept.refl w (fun k_ => P0_3_ k_))
 have HW0 := Aside0.mk hB.size
 have HB := Aside0.mk hB
 clear hB
 have H : ((qg.f k l0_3 a1).bind fun bt121 => (some (bt121.1, bt121.2))) = some (r1, r2) := h
 clear h
 replace H := Option.bind_eq_some_iff.mp H
 obtain ⟨⟨t121, t122⟩, A30, H⟩ := H
 replace H : (some (t121, t122)) = some (r1, r2) := H
 have A3 := Aside0.mk A30
 clear A30
 simp only [Option.some.injEq, Prod.mk.injEq] at H
 obtain ⟨rfl, rfl⟩ := H
 obtain ⟨Ao4, co4, eo4⟩ := Kd.z1 HO0_3.out
 subst eo4
 go_enter Try.func26, Try.ntmps26
 go_wp2_with (first | ((with_reducible refine zx (N := 2) rfl ?_); refine zy ?hg (N := 2) ?hd (cs := #[.int .i64 a0_0, .int .i64 a0_1, .int .i64 a0_2, .slice Ao4 l0_3.length co4]) (t := 27) ?hr ?_; (case hd => rfl); (case hg => rfl); (case hr => exact sqG); intro gb120 hg w5 hbox hb; have n0_ := Aside0.mk (Kd.qo (sqR HO0_3.out) hb); have n1_ := Aside0.mk (Kept.below (S := (fun k_ => P0_3_ k_)) (by repeat (first | (with_reducible first | exact HK.out | apply Kept.alloc | apply Kept.drewN | apply Kept.drew) | exact HK.out)) hb); have n2_ := Aside0.mk (zj sqB hb); have n3_ := Aside0.mk (hbox); have n4_ := Aside0.mk ((by rw [hg]; exact (by first | exact HK.out.1 | exact (show Kept w _ (fun k_ => P0_3_ k_) from by repeat (first | (with_reducible first | exact HK.out | apply Kept.alloc | apply Kept.drewN | apply Kept.drew) | exact HK.out)).1) : w.heap.size ≤ gb120)); have n5_ := Aside0.mk ((sqS hg : w0.heap.size ≤ gb120)); clear HO0_3; clear HK; clear HB; have HO0_3 := n0_; have HK := n1_; have HB := n2_; have BK120 := n3_; have GW120 := n4_; have GE120 := n5_; clear n0_ n1_ n2_ n3_ n4_ n5_; clear hb hbox hg; have hcz6_0 : w5.cell? ⟨gb120, 0, none⟩ = some (.int .i64 a0_0) := (zb BK120.out 0).trans rfl; have hcz6_1 : w5.cell? ⟨gb120, 1, none⟩ = some (.int .i64 a0_1) := (zb BK120.out 1).trans rfl; have hcz6_2 : w5.cell? ⟨gb120, 2, none⟩ = some (.int .i64 a0_2) := (zb BK120.out 2).trans rfl; have hcz6_3 : w5.cell? ⟨gb120, 3, none⟩ = some (.slice Ao4 l0_3.length co4) := (zb BK120.out 3).trans rfl; have hfz6_0 := za BK120.out 0; have hfz6_1 := za BK120.out 1; have hfz6_2 := za BK120.out 2; have hfz6_3 := za BK120.out 3) | ((with_reducible refine zt (f := 53) rfl ?_); refine zN (some 8) rfl rfl Try.func53 (by kernel_rfl) rfl #[.slice Ao4 l0_3.length co4, .int .i64 a1] rfl sqM ?_; (with_reducible refine (qg.calls k (fun k_ => some k_ = (.slice Ao4 l0_3.length co4 : Value).ownBlock) (.slice Ao4 l0_3.length co4) l0_3 a1 t121 t122 w0 _ ?side1 ?side2 A3.out).mono ?_); (case side1 => repeat (first | (with_reducible first | exact HB.out | apply zZ | apply zW | apply zL | refine zM ?_ GE120.out) | exact HB.out)); (case side2 => exact Kd.vX rfl HO0_3.out); rintro e w7 ⟨rfl, hy0, hb, hkp⟩; refine ⟨_, rfl, ?_⟩; have n0_ := Aside0.mk (Kd.Q4 rfl hy0 (fun k_ e_ => HO0_3.out.1 k_ e_)); have n1_ := Aside0.mk (j7 (sqK BK120.out) hkp (fun hs_ => (fun e_ => (Kd.jr HO0_3.out BK120.out (by decide)) e_) hs_)); have n2_ := Aside0.mk (Kept.Jp (S := (fun k_ => P0_3_ k_)) (by repeat (first | (with_reducible first | exact HK.out | apply Kept.alloc | apply Kept.drewN | apply Kept.drew | refine Kept.setCell ?_ (.inr GW120.out) _) | exact HK.out)) hkp (fun k_ hs_ => (fun e_ => (HO0_3.out.1 k_ e_.symm)) hs_)); have n3_ := Aside0.mk (hb); clear HO0_3; clear BK120; clear HK; clear HB; have HO0_3 := n0_; have BK120 := n1_; have HK := n2_; have HB := n3_; clear n0_ n1_ n2_ n3_; (try clear hb); (try clear hkp); (try clear hy0)))
 go_ret
 exact ⟨sqE, sqR HO0_3.out, sqB, by repeat (first | (with_reducible first | exact HK.out | apply Kept.alloc | apply Kept.drewN | apply Kept.drew | refine Kept.setCell ?_ (.inr GW120.out) _) | exact HK.out)⟩

def qf.l0 : Nat → List Int → Int → Int → Option (Int)
 | 0, _, _, _ => none
 | k + 1, x0, x1, x5 => if x5 < (x0.length : Int) then (if 0 ≤ x5 then (if (rd x0 x5) = x1 then (qf.l0 k x0 (wrap64 (x1 + 1)) (wrap64 (x5 + 1))) else (some (-1))) else (none)) else (some x1)
def qf.f (k : Nat) (l0 : List Int) (a1 : Int) : Option (Int) := qf.l0 k l0 a1 0
theorem qf.calls (k : Nat) (A0 : Option Addr) (c0 : Nat) (l0 : List Int) (a1 : Int) (r : Int) (w : World) (hr0 : Kd.C (Kd.int .i64) w A0 l0.length l0) (hc0 : l0.length ≤ c0) (h : qf.f k l0 a1 = some r) :
  Calls Try.prog 54 #[.slice A0 l0.length c0, .int .i64 a1] w fun e w' => e = .returned (.int .i64 r) ∧ zn w w' := by
 have HR0 := Aside0.mk hr0
 have HC0 := Aside0.mk hc0
 clear hr0 hc0
 have H : (qf.l0 k l0 a1 0) = some r := h
 clear h
 have H' := Aside0.mk H
 clear H
 go_enter Try.func54, Try.ntmps54
 go_wp2
 go_loopg [1, 5] k (fun kq v1 v5 w' => ∃ (x1_1 : Int) (x5_1 : Int), v1 = .int .i64 x1_1 ∧ v5 = .int .i64 x5_1 ∧ Aside0 (qf.l0 kq l0 x1_1 x5_1 = some r) ∧ Aside0 (kq ≤ k) ∧ zn w w')
 case atStart => exact ⟨(a1), (0), (sqD), (sqD), H', ⟨Nat.le_refl _⟩, by repeat (first | exact zn.refl _ | apply zn.step)⟩
 case round =>
  clear H'
  try clear p2
  obtain ⟨x1_1, x5_1, rfl, rfl, HA, HK1, ⟨m1, rfl⟩⟩ := hrel
  cases gk with
  | zero => exact absurd HA.out (by simp [qf.l0])
  | succ k1 =>
   have H := HA.out
   clear HA
   simp only [qf.l0] at H
   by_cases c3 : x5_1 < (l0.length : Int)
   ·rw [if_pos c3] at H
    have c3b0 : decide (x5_1 < (l0.length : Int)) = true := decide_eq_true c3
    clear c3
    by_cases c4 : 0 ≤ x5_1
    ·rw [if_pos c4] at H
     have c4b0 : decide (0 ≤ x5_1) = true := decide_eq_true c4
     clear c4
     by_cases c5 : (rd l0 x5_1) = x1_1
     ·rw [if_pos c5] at H
      have c5b0 : ((rd l0 x5_1) == x1_1) = true := beq_iff_eq.mpr c5
      have c5b1 : ((rd l0 x5_1) != x1_1) = false := bne_eq_false_iff_eq.mpr c5
      clear c5
      have H' := Aside0.mk H
      clear H
      have p123 : 0 ≤ (x5_1 : Int) := of_decide_eq_true sqA
      have q123 : x5_1 < (l0.length : Int) := of_decide_eq_true sqA
      obtain ⟨ad123, e123, hx123_0⟩ := Kd.qd HR0.out x5_1 p123 q123
      cases e123
      replace p123 := eq_true p123
      replace q123 := eq_true q123
      go_wp2
      go_roundg k1
      case measure => have := HK1.out; omega
      case rel => exact ⟨(wrap64 (x1_1 + 1)), (wrap64 (x5_1 + 1)), (sqD), (sqD), H', ⟨by have := HK1.out; omega⟩, by repeat (first | exact zn.refl _ | apply zn.step)⟩
     ·rw [if_neg c5] at H
      have c5b0 : ((rd l0 x5_1) == x1_1) = false := beq_eq_false_iff_ne.mpr c5
      have c5b1 : ((rd l0 x5_1) != x1_1) = true := bne_iff_ne.mpr c5
      obtain rfl := Option.some.inj H
      have p123 : 0 ≤ (x5_1 : Int) := of_decide_eq_true sqA
      have q123 : x5_1 < (l0.length : Int) := of_decide_eq_true sqA
      obtain ⟨ad123, e123, hx123_0⟩ := Kd.qd HR0.out x5_1 p123 q123
      cases e123
      replace p123 := eq_true p123
      replace q123 := eq_true q123
      go_wp2
      go_ret
      exact ⟨sqD, by repeat (first | exact zn.refl _ | apply zn.step)⟩
    ·rw [if_neg c4] at H
     exact absurd H (by simp)
   ·rw [if_neg c3] at H
    have c3b0 : decide (x5_1 < (l0.length : Int)) = false := decide_eq_false c3
    clear c3
    obtain rfl := Option.some.inj H
    go_wp2
    go_ret
    exact ⟨sqD, by repeat (first | exact zn.refl _ | apply zn.step)⟩

def vL.f (k : Nat) (a0_0 : Int) (a0_1 : Int) (a0_2 : Int) (l0_3 : List Int) (a1 : Int) : Option (Int) := (qf.f k l0_3 a1).bind fun t125 => (if t125 < 0 then (some (-1)) else (some t125))
theorem vL.calls (k : Nat) (a0_0 : Int) (a0_1 : Int) (a0_2 : Int) (A0_3 : Option Addr) (c0_3 : Nat) (l0_3 : List Int) (a1 : Int) (r : Int) (w : World) (hr0_3 : Kd.C (Kd.int .i64) w A0_3 l0_3.length l0_3) (hc0_3 : l0_3.length ≤ c0_3) (h : vL.f k a0_0 a0_1 a0_2 l0_3 a1 = some r) :
  Calls Try.prog 27 #[.agg #[.int .i64 a0_0, .int .i64 a0_1, .int .i64 a0_2, .slice A0_3 l0_3.length c0_3], .int .i64 a1] w fun e w' => e = .returned (.int .i64 r) ∧ Below w.heap.size w w' := by
 have hu27 := Try.underlying27
 have HR0_3 := Aside0.mk hr0_3
 have HC0_3 := Aside0.mk hc0_3
 clear hr0_3 hc0_3
 have HB := Aside0.mk (Below.refl w.heap.size w)
 have H : ((qf.f k l0_3 a1).bind fun t125 => (if t125 < 0 then (some (-1)) else (some t125))) = some r := h
 clear h
 replace H := Option.bind_eq_some_iff.mp H
 obtain ⟨t125, A30, H⟩ := H
 replace H : (if t125 < 0 then (some (-1)) else (some t125)) = some r := H
 have A3 := Aside0.mk A30
 clear A30
 by_cases c4 : t125 < 0
 ·rw [if_pos c4] at H
  have c4b0 : decide (t125 < 0) = true := decide_eq_true c4
  clear c4
  obtain rfl := Option.some.inj H
  go_enter Try.func27, Try.ntmps27
  go_wp2_with (first | ((with_reducible refine zx (N := 2) rfl ?_); refine zy ?hg (N := 2) ?hd (cs := #[.int .i64 a0_0, .int .i64 a0_1, .int .i64 a0_2, .slice A0_3 l0_3.length c0_3]) (t := 27) ?hr ?_; (case hd => rfl); (case hg => rfl); (case hr => exact sqG); intro gb124 hg w5 hbox hb; have n0_ := Aside0.mk (zj sqB hb); have n1_ := Aside0.mk (hbox); have n2_ := Aside0.mk ((sqS hg : w.heap.size ≤ gb124)); have n3_ := Aside0.mk ((sqS hg : w.heap.size ≤ gb124)); clear HB; have HB := n0_; have BK124 := n1_; have GW124 := n2_; have GE124 := n3_; clear n0_ n1_ n2_ n3_; clear hb hbox hg; have hcz6_0 : w5.cell? ⟨gb124, 0, none⟩ = some (.int .i64 a0_0) := (zb BK124.out 0).trans rfl; have hcz6_1 : w5.cell? ⟨gb124, 1, none⟩ = some (.int .i64 a0_1) := (zb BK124.out 1).trans rfl; have hcz6_2 : w5.cell? ⟨gb124, 2, none⟩ = some (.int .i64 a0_2) := (zb BK124.out 2).trans rfl; have hcz6_3 : w5.cell? ⟨gb124, 3, none⟩ = some (.slice A0_3 l0_3.length c0_3) := (zb BK124.out 3).trans rfl; have hfz6_0 := za BK124.out 0; have hfz6_1 := za BK124.out 1; have hfz6_2 := za BK124.out 2; have hfz6_3 := za BK124.out 3) | ((with_reducible refine zt (f := 54) rfl ?_); refine zN (some 8) rfl rfl Try.func54 (by kernel_rfl) rfl #[.slice A0_3 l0_3.length c0_3, .int .i64 a1] rfl sqM ?_; (with_reducible refine (qf.calls k _ _ l0_3 a1 t125 _ ?side1 ?side2 A3.out).mono ?_); (case side1 => exact sqC (Kd.z7 HR0_3.out HB.out)); (case side2 => exact HC0_3.out); rintro e w' ⟨rfl, ⟨nd, rfl⟩⟩; refine ⟨_, rfl, ?_⟩))
  go_ret
  exact ⟨sqE, sqB⟩
 ·rw [if_neg c4] at H
  have c4b0 : decide (t125 < 0) = false := decide_eq_false c4
  clear c4
  obtain rfl := Option.some.inj H
  go_enter Try.func27, Try.ntmps27
  go_wp2_with (first | ((with_reducible refine zx (N := 2) rfl ?_); refine zy ?hg (N := 2) ?hd (cs := #[.int .i64 a0_0, .int .i64 a0_1, .int .i64 a0_2, .slice A0_3 l0_3.length c0_3]) (t := 27) ?hr ?_; (case hd => rfl); (case hg => rfl); (case hr => exact sqG); intro gb124 hg w7 hbox hb; have n0_ := Aside0.mk (zj sqB hb); have n1_ := Aside0.mk (hbox); have n2_ := Aside0.mk ((sqS hg : w.heap.size ≤ gb124)); have n3_ := Aside0.mk ((sqS hg : w.heap.size ≤ gb124)); clear HB; have HB := n0_; have BK124 := n1_; have GW124 := n2_; have GE124 := n3_; clear n0_ n1_ n2_ n3_; clear hb hbox hg; have hcz8_0 : w7.cell? ⟨gb124, 0, none⟩ = some (.int .i64 a0_0) := (zb BK124.out 0).trans rfl; have hcz8_1 : w7.cell? ⟨gb124, 1, none⟩ = some (.int .i64 a0_1) := (zb BK124.out 1).trans rfl; have hcz8_2 : w7.cell? ⟨gb124, 2, none⟩ = some (.int .i64 a0_2) := (zb BK124.out 2).trans rfl; have hcz8_3 : w7.cell? ⟨gb124, 3, none⟩ = some (.slice A0_3 l0_3.length c0_3) := (zb BK124.out 3).trans rfl; have hfz8_0 := za BK124.out 0; have hfz8_1 := za BK124.out 1; have hfz8_2 := za BK124.out 2; have hfz8_3 := za BK124.out 3) | ((with_reducible refine zt (f := 54) rfl ?_); refine zN (some 8) rfl rfl Try.func54 (by kernel_rfl) rfl #[.slice A0_3 l0_3.length c0_3, .int .i64 a1] rfl sqM ?_; (with_reducible refine (qf.calls k _ _ l0_3 a1 t125 _ ?side1 ?side2 A3.out).mono ?_); (case side1 => exact sqC (Kd.z7 HR0_3.out HB.out)); (case side2 => exact HC0_3.out); rintro e w' ⟨rfl, ⟨nd, rfl⟩⟩; refine ⟨_, rfl, ?_⟩))
  go_ret
  exact ⟨sqE, sqB⟩

def z6.f (a0_0 : Int) (a0_1 : Int) (a0_2 : Int) (l0_3 : List Int) : Option (Int × Int × Int × List Int) := (some (([] : List Int) : List Int)).bind fun y134 => (if y134.length + l0_3.length < 17592186044416 then (some (a0_0, a0_1, a0_2, (y134 ++ l0_3))) else (none))
def z6.T1 : Bool × List (List Nat × List Nat) := (true, [([], []), ([0], [0]), ([], []), ([2], [2]), ([], []), ([4], [4]), ([], []), ([], []), ([7], [7]), ([6, 8], [6, 8]), ([1, 3, 5, 9], [1, 3, 5, 9]), ([10, 9, 0, 1, 2, 3, 4, 5, 6, 7, 8, 9, 10], [10])])
def z6.B1 : List Nat := [0, 1, 0, 4, 0, 16, 0, 0, 128, 448, 1023, 2047]
theorem z6.Y2 : jo .any (opsOf Try.f60 1) = z6.T1 := by kernel_rfl
theorem z6.Vt : q8 z6.T1.2 z6.B1 = true := by kernel_rfl
theorem z6.calls (a0_0 : Int) (a0_1 : Int) (a0_2 : Int) (A0_3 : Option Addr) (c0_3 : Nat) (l0_3 : List Int) (r1 : Int) (r2 : Int) (r3 : Int) (r4 : List Int) (w : World) (hr0_3 : Kd.C (Kd.int .i64) w A0_3 l0_3.length l0_3) (hc0_3 : l0_3.length ≤ c0_3) (h : z6.f a0_0 a0_1 a0_2 l0_3 = some (r1, r2, r3, r4)) :
  Calls Try.prog 60 #[.agg #[.int .i64 a0_0, .int .i64 a0_1, .int .i64 a0_2, .slice A0_3 l0_3.length c0_3]] w fun e w' => ∃ v3_ : Value, e = .returned (.agg #[.int .i64 r1, .int .i64 r2, .int .i64 r3, v3_]) ∧ Kd.R (Kd.int .i64) 3 w' w.heap.size (fun _ => True) v3_ r4 ∧ Below w.heap.size w w' := by
 have hu27 := Try.underlying27
 have HR0_3 := Aside0.mk hr0_3
 have HC0_3 := Aside0.mk hc0_3
 clear hr0_3 hc0_3
 have HB := Aside0.mk (Below.refl w.heap.size w)
 have H : ((some (([] : List Int) : List Int)).bind fun y134 => (if y134.length + l0_3.length < 17592186044416 then (some (a0_0, a0_1, a0_2, (y134 ++ l0_3))) else (none))) = some (r1, r2, r3, r4) := h
 clear h
 obtain ⟨y134, hy134⟩ : ∃ y_ : List Int, y_ = (([] : List Int)) := ⟨_, rfl⟩
 replace H : (if y134.length + l0_3.length < 17592186044416 then (some (a0_0, a0_1, a0_2, (y134 ++ l0_3))) else (none)) = some (r1, r2, r3, r4) := by first | (rw [hy134]; with_reducible exact H) | (have H2_ := (Option.bind_some _ _).symm.trans H; rw [hy134]; with_reducible exact H2_) | (have H2_ := (Option.bind_some _ _).symm.trans H; with_reducible exact H2_) | with_reducible exact H | (rw [hy134]; exact H) | exact H
 have Ny134 := Aside0.mk hy134
 clear hy134
 by_cases c2 : y134.length + l0_3.length < 17592186044416
 ·rw [if_pos c2] at H
  have LMc2 := Aside0.mk c2
  clear c2
  obtain ⟨y137, hy137⟩ : ∃ y_ : List Int, y_ = (y134 ++ l0_3) := ⟨_, rfl⟩
  replace H : (some (a0_0, a0_1, a0_2, y137)) = some (r1, r2, r3, r4) := by first | (rw [hy137]; with_reducible exact H) | (have H2_ := (Option.bind_some _ _).symm.trans H; rw [hy137]; with_reducible exact H2_) | (have H2_ := (Option.bind_some _ _).symm.trans H; with_reducible exact H2_) | with_reducible exact H | (rw [hy137]; exact H) | exact H
  have Ny137 := Aside0.mk hy137
  clear hy137
  simp only [Option.some.injEq, Prod.mk.injEq] at H
  obtain ⟨rfl, rfl, rfl, rfl⟩ := H
  go_enter Try.func60, Try.ntmps60
  try go_wp2_with (first | ((with_reducible refine zx (N := 1) rfl ?_); refine zy ?hg (N := 1) ?hd (cs := #[.int .i64 a0_0, .int .i64 a0_1, .int .i64 a0_2, .slice A0_3 l0_3.length c0_3]) (t := 27) ?hr ?_; (case hd => rfl); (case hg => rfl); (case hr => exact sqG); intro gb132 hg w3 hbox hb; have n0_ := Aside0.mk (zj sqB hb); have n1_ := Aside0.mk (hbox); have n2_ := Aside0.mk ((sqS hg : w.heap.size ≤ gb132)); have n3_ := Aside0.mk ((sqS hg : w.heap.size ≤ gb132)); clear HB; have HB := n0_; have BK132 := n1_; have GW132 := n2_; have GE132 := n3_; clear n0_ n1_ n2_ n3_; clear hb hbox hg) | ((with_reducible refine zx (N := 2) rfl ?_); refine zy ?hg (N := 2) ?hd (cs := #[.int .i64 0, .int .i64 0, .int .i64 0, .slice none 0 0]) (t := 27) ?hr ?_; (case hd => rfl); (case hg => rfl); (case hr => exact sqG); intro gb133 hg w4 hbox hb; have n0_ := Aside0.mk (zq (g := gb132) (o := .cells #[.int .i64 a0_0, .int .i64 a0_1, .int .i64 a0_2, .slice A0_3 l0_3.length c0_3] 27 (0, 0)) (sqK BK132.out) hb); have n1_ := Aside0.mk (zj sqB hb); have n2_ := Aside0.mk (hbox); have n3_ := Aside0.mk ((sqS hg : w.heap.size ≤ gb133)); have n4_ := Aside0.mk ((sqS hg : w.heap.size ≤ gb133)); have n5_ := Aside0.mk ((by rw [hg]; exact Nat.ne_of_lt (zS (g := gb132) (o := .cells #[.int .i64 a0_0, .int .i64 a0_1, .int .i64 a0_2, .slice A0_3 l0_3.length c0_3] 27 (0, 0)) (sqK BK132.out)) : gb132 ≠ gb133)); have n6_ := Aside0.mk ((by rw [hg]; exact Nat.ne_of_gt (zS (g := gb132) (o := .cells #[.int .i64 a0_0, .int .i64 a0_1, .int .i64 a0_2, .slice A0_3 l0_3.length c0_3] 27 (0, 0)) (sqK BK132.out)) : gb133 ≠ gb132)); clear BK132; clear HB; have BK132 := n0_; have HB := n1_; have BK133 := n2_; have GW133 := n3_; have GE133 := n4_; have NB132_133 := n5_; have NB133_132 := n6_; clear n0_ n1_ n2_ n3_ n4_ n5_ n6_; clear hb hbox hg))
  have n0_ := Aside0.mk (qn BK132.out)
  have n1_ := Aside0.mk (qn BK133.out)
  have n2_ := Aside0.mk (zL HB.out)
  clear BK132 BK133 HB; have BK132 := n0_; have BK133 := n1_; have HB := n2_; clear n0_ n1_ n2_
  refine jU (n := 12) (S := fun w' => w'.cell? ⟨gb132, 0, none⟩ = some (.int .i64 a0_0) ∧ w'.cell? ⟨gb132, 1, none⟩ = some (.int .i64 a0_1) ∧ w'.cell? ⟨gb132, 2, none⟩ = some (.int .i64 a0_2) ∧ w'.cell? ⟨gb132, 3, none⟩ = some (.slice A0_3 l0_3.length c0_3)) (ds := []) #[false, false, false, false, false, false, false, false, false, false, false, false] (by kernel_rfl) rfl rfl ⟨(zb BK132.out 0).trans rfl, (zb BK132.out 1).trans rfl, (zb BK132.out 2).trans rfl, (zb BK132.out 3).trans rfl⟩ (fun hHeld => ?_); refine qQ z6.Y2 z6.Vt (fun HT_ HW_ => ?_)
  generalize w4.drew = w5 at BK132 BK133 HB hHeld ⊢
  refine zo (i := 0) (N := some 3) (v := ?_) (a' := ?_) #[true, false, false, false, false, false, false, false, false, false, false, false] rfl rfl (zh HT_.out (by kernel_rfl)) (fun _ _ _ h => h) (Or.inl ⟨by rfl, ?_⟩) ?_ ?_
  rotate_left
  ·intro w'; go_simp; with_reducible rfl
  rotate_left
  ·simp only [Act.put, List.setIfInBounds_toArray, List.set_cons_zero, List.set_cons_succ, zd, zf]; rfl
  refine zo (i := 2) (N := some 5) (v := ?_) (a' := ?_) #[true, false, true, false, false, false, false, false, false, false, false, false] rfl rfl (zh HT_.out (by kernel_rfl)) (fun _ _ _ h => h) (Or.inl ⟨by rfl, ?_⟩) ?_ ?_
  rotate_left
  ·intro w'; go_simp; with_reducible rfl
  rotate_left
  ·simp only [Act.put, List.setIfInBounds_toArray, List.set_cons_zero, List.set_cons_succ, zd, zf]; rfl
  refine zo (i := 4) (N := some 7) (v := ?_) (a' := ?_) #[true, false, true, false, true, false, false, false, false, false, false, false] rfl rfl (zh HT_.out (by kernel_rfl)) (fun _ _ _ h => h) (Or.inl ⟨by rfl, ?_⟩) ?_ ?_
  rotate_left
  ·intro w'; go_simp; with_reducible rfl
  rotate_left
  ·simp only [Act.put, List.setIfInBounds_toArray, List.set_cons_zero, List.set_cons_succ, zd, zf]; rfl
  refine zo (i := 7) (N := some 10) (v := ?_) (a' := ?_) #[true, false, true, false, true, false, false, true, false, false, false, false] rfl rfl (zh HT_.out (by kernel_rfl)) (fun _ _ _ h => h) (Or.inl ⟨by rfl, ?_⟩) ?_ ?_
  rotate_left
  ·intro w'; go_simp; with_reducible rfl
  rotate_left
  ·simp only [Act.put, List.setIfInBounds_toArray, List.set_cons_zero, List.set_cons_succ, zd, zf]; rfl
  refine qa (i := 1) (N := some 4) (v := ?_) (a' := ?_) #[true, true, true, false, true, false, false, true, false, false, false, false] rfl rfl (zA HT_.out HW_.out (by kernel_rfl)) (fun _ _ _ h => h) (Or.inl ⟨by rfl, ?_⟩) hHeld ?_ ?_
  rotate_left
  ·rintro w' ⟨s0, s1, s2, s3⟩; go_simp; with_reducible rfl
  rotate_left
  ·simp only [Act.put, List.setIfInBounds_toArray, List.set_cons_zero, List.set_cons_succ, zd, zf]; rfl
  refine qa (i := 3) (N := some 6) (v := ?_) (a' := ?_) #[true, true, true, true, true, false, false, true, false, false, false, false] rfl rfl (zA HT_.out HW_.out (by kernel_rfl)) (fun _ _ _ h => h) (Or.inl ⟨by rfl, ?_⟩) hHeld ?_ ?_
  rotate_left
  ·rintro w' ⟨s0, s1, s2, s3⟩; go_simp; with_reducible rfl
  rotate_left
  ·simp only [Act.put, List.setIfInBounds_toArray, List.set_cons_zero, List.set_cons_succ, zd, zf]; rfl
  refine qa (i := 5) (N := some 8) (v := ?_) (a' := ?_) #[true, true, true, true, true, true, false, true, false, false, false, false] rfl rfl (zA HT_.out HW_.out (by kernel_rfl)) (fun _ _ _ h => h) (Or.inl ⟨by rfl, ?_⟩) hHeld ?_ ?_
  rotate_left
  ·rintro w' ⟨s0, s1, s2, s3⟩; go_simp; with_reducible rfl
  rotate_left
  ·simp only [Act.put, List.setIfInBounds_toArray, List.set_cons_zero, List.set_cons_succ, zd, zf]; rfl
  refine qa (i := 8) (N := some 11) (v := ?_) (a' := ?_) #[true, true, true, true, true, true, false, true, true, false, false, false] rfl rfl (zA HT_.out HW_.out (by kernel_rfl)) (fun _ _ _ h => h) (Or.inl ⟨by rfl, ?_⟩) hHeld ?_ ?_
  rotate_left
  ·rintro w' ⟨s0, s1, s2, s3⟩; go_simp; with_reducible rfl
  rotate_left
  ·simp only [Act.put, List.setIfInBounds_toArray, List.set_cons_zero, List.set_cons_succ, zd, zf]; rfl
  refine ZP (i := 6) (N := some 9) #[true, true, true, true, true, true, true, true, true, false, false, false] rfl rfl (ji HT_.out (by kernel_rfl)) (by decide) (fun K hK => ?_)
  refine Kd.QW (Kd.int .i64) _ 3 ?hg (N := 9) ?hd (xs := ([] : List Int)) (inner := []) (ok := fun _ => True) (okp := fun _ => True) ?hr ?hp (fun _ hk => hk) trivial (Below.refl _ _) (Nat.le_refl _) (by simp) ?_; (case hd => rfl); (case hg => rfl); (case hr => exact sqG); (case hp => exact (qi.none _ _))
  intro v135 w6 ho7 hb hg_ hnew_
  clear hg_ hnew_
  (first | rw [← Ny134.out] at ho7 | (simp only [Int.reduceToNat] at ho7; rw [← Ny134.out] at ho7))
  have n0_ := Aside0.mk (Kd.qE ho7 (zI sqB))
  have n1_ := Aside0.mk (zq (g := gb132) (o := .cells #[.int .i64 a0_0, .int .i64 a0_1, .int .i64 a0_2, .slice A0_3 l0_3.length c0_3] 27 (0, 0)) (sqK BK132.out) hb)
  have n2_ := Aside0.mk (zq (g := gb133) (o := .cells #[.int .i64 0, .int .i64 0, .int .i64 0, .slice none 0 0] 27 (0, 0)) (sqK BK133.out) hb)
  have n3_ := Aside0.mk (zj sqB hb)
  clear BK132 BK133 HB; have HO136 := n0_; have BK132 := n1_; have BK133 := n2_; have HB := n3_; clear n0_ n1_ n2_ n3_ hb ho7
  refine hK.out _ _ ⟨(zb BK132.out 0).trans rfl, (zb BK132.out 1).trans rfl, (zb BK132.out 2).trans rfl, (zb BK132.out 3).trans rfl⟩ (fun hHeld => ?_)
  clear hK K
  refine yC (a' := ?_) ?_ ?_
  rotate_left
  ·show Act.put _ (some 9) _ = _; simp only [Act.put, List.setIfInBounds_toArray, List.set_cons_zero, List.set_cons_succ, zd, zf]; rfl
  refine ZP (i := 9) (N := some 12) #[true, true, true, true, true, true, true, true, true, true, false, false] rfl rfl (ji HT_.out (by kernel_rfl)) (by decide) (fun K hK => ?_)
  refine Kd.yz (Kd.int .i64) (w0 := w) w.heap.size (by rfl) (.tmp 9) (.tmp 11) 22 3 (.int .i64 0) 8 rfl Try.underlying22 vU rfl (by decide) (by omega) v135 y134 l0_3 _ _ _ (fun _ => True) (fun _ => False) rfl rfl ?aO ?aR (fun _ _ h => h) (fun _ h => h.elim) ?aF ?aB ?aS ?aL ?_
  (case aR => exact sqC (Kd.z7 HR0_3.out HB.out))
  (case aB => exact sqB)
  (case aF => exact (fun _ _ => trivial))
  (case aO => exact (sqR HO136.out))
  (case aS => exact (zI sqB))
  (case aL => have := LMc2.out; omega)
  intro v138 w8 ho hb hg hat
  rw [← Ny137.out] at ho
  have n0_ := Aside0.mk (qm (g := gb132) (o := .cells #[.int .i64 a0_0, .int .i64 a0_1, .int .i64 a0_2, .slice A0_3 l0_3.length c0_3] 27 (0, 0)) (sqK BK132.out) hg (Kd.jr HO136.out BK132.out (by decide)))
  have n1_ := Aside0.mk (qm (g := gb133) (o := .cells #[.int .i64 0, .int .i64 0, .int .i64 0, .slice none 0 0] 27 (0, 0)) (sqK BK133.out) hg (Kd.jr HO136.out BK133.out (by decide)))
  have n2_ := Aside0.mk (hb)
  have n3_ := Aside0.mk (ho)
  clear BK132 BK133 HB HO136; have BK132 := n0_; have BK133 := n1_; have HB := n2_; have HO139 := n3_; clear n0_ n1_ n2_ n3_ ho hb hg hat
  obtain ⟨Ao9, co9, eo9⟩ := Kd.z1 HO139.out
  (first | subst eo9 | (injection eo9 with f1_ f2_ f3_; have f4_ := f1_.symm; have f5_ := f3_.symm; clear f1_ f2_ f3_; subst f4_; subst f5_))
  refine hK.out _ _ ⟨(zb BK132.out 0).trans rfl, (zb BK132.out 1).trans rfl, (zb BK132.out 2).trans rfl, (zb BK132.out 3).trans rfl⟩ (fun hHeld => ?_)
  clear hK K
  refine yC (a' := ?_) ?_ ?_
  rotate_left
  ·show Act.put _ (some 12) _ = _; simp only [Act.put, List.setIfInBounds_toArray, List.set_cons_zero, List.set_cons_succ, zd, zf]; rfl
  refine zo (i := 10) (N := some 13) (v := ?_) (a' := ?_) #[true, true, true, true, true, true, true, true, true, true, true, false] rfl rfl (zh HT_.out (by kernel_rfl)) (fun _ _ _ h => h) (Or.inl ⟨by rfl, ?_⟩) ?_ ?_
  rotate_left
  ·intro w'; go_simp; with_reducible rfl
  rotate_left
  ·simp only [Act.put, List.setIfInBounds_toArray, List.set_cons_zero, List.set_cons_succ, zd, zf]; rfl
  refine ZP (i := 11) (N := none) #[true, true, true, true, true, true, true, true, true, true, true, true] rfl rfl (ji HT_.out (by kernel_rfl)) (by decide) (fun K hK => ?_)
  have hs10 : w8.cell? ⟨gb133, 0, none⟩ = some (.int .i64 0) := (zb BK133.out 0).trans rfl
  have hfs10 := za BK133.out 0
  have hns10_0 := NB132_133.out
  have hms10_0 := NB133_132.out
  have hs11 : w8.cell? ⟨gb133, 1, none⟩ = some (.int .i64 0) := (zb BK133.out 1).trans rfl
  have hfs11 := za BK133.out 1
  have hns11_0 := NB132_133.out
  have hms11_0 := NB133_132.out
  have hs12 : w8.cell? ⟨gb133, 2, none⟩ = some (.int .i64 0) := (zb BK133.out 2).trans rfl
  have hfs12 := za BK133.out 2
  have hns12_0 := NB132_133.out
  have hms12_0 := NB133_132.out
  have hs13 : w8.cell? ⟨gb133, 3, none⟩ = some (.slice none 0 0) := (zb BK133.out 3).trans rfl
  have hfs13 := za BK133.out 3
  have hns13_0 := NB132_133.out
  have hms13_0 := NB133_132.out
  refine yi (w1 := ?_) (by rfl) rfl ?_ ?_
  rotate_left
  ·go_simp
   rfl
  refine hK.out _ _ ⟨((cell_far (p := ⟨gb133, _, none⟩) NB132_133.out _).trans (((cell_far (p := ⟨gb133, _, none⟩) NB132_133.out _).trans (((cell_far (p := ⟨gb133, _, none⟩) NB132_133.out _).trans (((cell_far (p := ⟨gb133, _, none⟩) NB132_133.out _).trans (hHeld.1)))))))), ((cell_far (p := ⟨gb133, _, none⟩) NB132_133.out _).trans (((cell_far (p := ⟨gb133, _, none⟩) NB132_133.out _).trans (((cell_far (p := ⟨gb133, _, none⟩) NB132_133.out _).trans (((cell_far (p := ⟨gb133, _, none⟩) NB132_133.out _).trans (hHeld.2.1)))))))), ((cell_far (p := ⟨gb133, _, none⟩) NB132_133.out _).trans (((cell_far (p := ⟨gb133, _, none⟩) NB132_133.out _).trans (((cell_far (p := ⟨gb133, _, none⟩) NB132_133.out _).trans (((cell_far (p := ⟨gb133, _, none⟩) NB132_133.out _).trans (hHeld.2.2.1)))))))), ((cell_far (p := ⟨gb133, _, none⟩) NB132_133.out _).trans (((cell_far (p := ⟨gb133, _, none⟩) NB132_133.out _).trans (((cell_far (p := ⟨gb133, _, none⟩) NB132_133.out _).trans (((cell_far (p := ⟨gb133, _, none⟩) NB132_133.out _).trans (hHeld.2.2.2))))))))⟩ (fun hHeld => ?_)
  clear hK K
  refine vM (jE HT_.out (by kernel_rfl)) ?_
  try go_wp2
  refine bodyPost_ret (results_cell_row rfl _ _ gb133 27 #[.int .i64 a0_0, .int .i64 a0_1, .int .i64 a0_2, .slice Ao9 y137.length co9] (0, 0) _ rfl (by refine sqK ?_; refine zG (cs := #[.int .i64 a0_0, .int .i64 a0_1, .int .i64 a0_2, .slice none 0 0]) ?_ 3 _ rfl; refine sqK ?_; refine zG (cs := #[.int .i64 a0_0, .int .i64 a0_1, .int .i64 0, .slice none 0 0]) ?_ 2 _ rfl; refine sqK ?_; refine zG (cs := #[.int .i64 a0_0, .int .i64 0, .int .i64 0, .slice none 0 0]) ?_ 1 _ rfl; refine sqK ?_; refine zG (cs := #[.int .i64 0, .int .i64 0, .int .i64 0, .slice none 0 0]) ?_ 0 _ rfl; refine sqK ?_; exact BK133.out) Try.underlying27 rfl (by kernel_rfl)) rfl ?_
  exact ⟨_, sqE, by refine sqR ?_; exact Kd.zO (Kd.zP (p := ⟨gb133, 3, none⟩) (Kd.zP (p := ⟨gb133, 2, none⟩) (Kd.zP (p := ⟨gb133, 1, none⟩) (Kd.zP (p := ⟨gb133, 0, none⟩) (Kd.qt HO139.out BK133.out (by decide)) (fun _ hk => hk.2) (.int .i64 a0_0)) (fun _ hk => hk.2) (.int .i64 a0_1)) (fun _ hk => hk.2) (.int .i64 a0_2)) (fun _ hk => hk.2) (.slice Ao9 y137.length co9)) (fun _ hk => trivial), sqB⟩
 ·rw [if_neg c2] at H
  exact absurd H (by simp)

def zF.l0 : Nat → Int → Int → Int → Int → Int → Int → List Int → Option (List Int)
 | 0, _, _, _, _, _, _, _ => none
 | k + 1, x1, x2, x6, x141000, x141001, x141002, x141003 => if x6 < x141002 then (if 0 ≤ (wrap64 ((wrap64 (x1 * x141002)) + x6)) then (if (wrap64 ((wrap64 (x1 * x141002)) + x6)) < (x141003.length : Int) then (if 0 ≤ (wrap64 ((wrap64 (x2 * x141002)) + x6)) then (if (wrap64 ((wrap64 (x2 * x141002)) + x6)) < (x141003.length : Int) then (zF.l0 k x1 x2 (wrap64 (x6 + 1)) x141000 x141001 x141002 ((x141003.set ((wrap64 ((wrap64 (x1 * x141002)) + x6)) : Int).toNat (rd x141003 (wrap64 ((wrap64 (x2 * x141002)) + x6)))).set ((wrap64 ((wrap64 (x2 * x141002)) + x6)) : Int).toNat (rd x141003 (wrap64 ((wrap64 (x1 * x141002)) + x6))))) else (none)) else (none)) else (none)) else (none)) else (some x141003)
def zF.f (k : Nat) (a0_0 : Int) (a0_1 : Int) (a0_2 : Int) (l0_3 : List Int) (a1 : Int) (a2 : Int) : Option (List Int) := zF.l0 k a1 a2 0 a0_0 a0_1 a0_2 l0_3
def zF.T5 : Bool × List (List Nat × List Nat) := (true, [([], []), ([0], [0]), ([], []), ([], []), ([3], [3]), ([2, 4], [2, 4]), ([], []), ([5, 6], [5, 6]), ([], []), ([8], [8]), ([], []), ([], []), ([11], [11]), ([10, 12], [10, 12]), ([], []), ([13, 14], [13, 14]), ([9, 15], [9, 15]), ([16], [16]), ([1, 7, 0, 1, 2, 3, 4, 5, 6, 7, 8, 9, 10, 11, 12, 13, 14, 15, 16, 17], [1, 7]), ([18, 17, 0, 1, 2, 3, 4, 5, 6, 7, 8, 9, 10, 11, 12, 13, 14, 15, 16, 17], [17, 18])])
def zF.B5 : List Nat := [0, 1, 0, 0, 8, 28, 0, 124, 0, 256, 0, 0, 2048, 7168, 0, 31744, 65280, 130816, 262143, 524287]
theorem zF.Y4 : jo .any (opsOf Try.f61 5) = zF.T5 := by kernel_rfl
theorem zF.VP : q8 zF.T5.2 zF.B5 = true := by kernel_rfl
theorem zF.calls (k : Nat) (a0_0 : Int) (a0_1 : Int) (a0_2 : Int) (P0_3_ : Nat → Prop) (u9000_ : Value) (l0_3 : List Int) (a1 : Int) (a2 : Int) (r : List Int) (w0 w : World) (hB : Below w0.heap.size w0 w) (ho0_3 : Kd.R (Kd.int .i64) 3 w w0.heap.size P0_3_ u9000_ l0_3) (h : zF.f k a0_0 a0_1 a0_2 l0_3 a1 a2 = some r) :
  Calls Try.prog 61 #[.agg #[.int .i64 a0_0, .int .i64 a0_1, .int .i64 a0_2, u9000_], .int .i64 a1, .int .i64 a2] w fun e w' => e = .returned (.tuple #[]) ∧ Kd.R (Kd.int .i64) 3 w' w0.heap.size (fun k_ => (P0_3_ k_ ∨ w.heap.size ≤ k_)) u9000_ r ∧ Below w0.heap.size w0 w' ∧ Kept w w' (fun k_ => P0_3_ k_) := by
 have hu27 := Try.underlying27
 have HO0_3 := Aside0.mk (show Kd.R (Kd.int .i64) 3 w w0.heap.size (fun k_ => (P0_3_ k_ ∨ w.heap.size ≤ k_)) u9000_ l0_3 from Kd.zO ho0_3 (fun k_ hk => (.inl hk)))
 have HK := Aside0.mk (Kept.refl w (fun k_ => P0_3_ k_))
 have HW0 := Aside0.mk hB.size
 have HB := Aside0.mk hB
 clear hB
 have H : (zF.l0 k a1 a2 0 a0_0 a0_1 a0_2 l0_3) = some r := h
 clear h
 have H' := Aside0.mk H
 clear H
 obtain ⟨Ao4, co4, eo4⟩ := Kd.z1 HO0_3.out
 subst eo4
 go_enter Try.func61, Try.ntmps61
 go_wp2_with (first | ((with_reducible refine zx (N := 3) rfl ?_); refine zy ?hg (N := 3) ?hd (cs := #[.int .i64 a0_0, .int .i64 a0_1, .int .i64 a0_2, .slice Ao4 l0_3.length co4]) (t := 27) ?hr ?_; (case hd => rfl); (case hg => rfl); (case hr => exact sqG); intro gb140 hg w5 hbox hb; have n0_ := Aside0.mk (Kd.qo (sqR HO0_3.out) hb); have n1_ := Aside0.mk (Kept.below (S := (fun k_ => P0_3_ k_)) (by repeat (first | (with_reducible first | exact HK.out | apply Kept.alloc | apply Kept.drewN | apply Kept.drew) | exact HK.out)) hb); have n2_ := Aside0.mk (zj sqB hb); have n3_ := Aside0.mk (hbox); have n4_ := Aside0.mk ((by rw [hg]; exact (by first | exact HK.out.1 | exact (show Kept w _ (fun k_ => P0_3_ k_) from by repeat (first | (with_reducible first | exact HK.out | apply Kept.alloc | apply Kept.drewN | apply Kept.drew) | exact HK.out)).1) : w.heap.size ≤ gb140)); have n5_ := Aside0.mk ((sqS hg : w0.heap.size ≤ gb140)); clear HO0_3; clear HK; clear HB; have HO0_3 := n0_; have HK := n1_; have HB := n2_; have BK140 := n3_; have GW140 := n4_; have GE140 := n5_; clear n0_ n1_ n2_ n3_ n4_ n5_; clear hb hbox hg))
 go_loopg [6] k (fun kq v6 w' => ∃ (x6_1 : Int) (x141003_1 : List Int), v6 = .int .i64 x6_1 ∧ Aside0 (zF.l0 kq a1 a2 x6_1 a0_0 a0_1 a0_2 x141003_1 = some r) ∧ Aside0 (kq ≤ k) ∧ Aside0 (Kd.R (Kd.int .i64) 3 w' w0.heap.size (fun k_ => (P0_3_ k_ ∨ w.heap.size ≤ k_)) (.slice Ao4 l0_3.length co4) x141003_1) ∧ Aside0 (w'.heap[gb140]? = some (.cells #[.int .i64 a0_0, .int .i64 a0_1, .int .i64 a0_2, (.slice Ao4 l0_3.length co4)] 27 (0, 0))) ∧ Aside0 (Kept w w' (fun k_ => P0_3_ k_)) ∧ Aside0 (Below w0.heap.size w0 w'))
 case atStart => exact ⟨(0), (l0_3), (sqD), H', ⟨Nat.le_refl _⟩, ⟨sqR HO0_3.out⟩, ⟨sqK BK140.out⟩, ⟨by repeat (first | (with_reducible first | exact HK.out | apply Kept.alloc | apply Kept.drewN | apply Kept.drew | refine Kept.setCell ?_ (.inr GW140.out) _) | exact HK.out)⟩, ⟨sqB⟩⟩
 case round =>
  clear H'
  try clear p2
  obtain ⟨x6_1, x141003_1, rfl, HA, HK1, HO_141003, BK140, HK, HB⟩ := hrel
  have hl141003_1 := (Kd.zC HO_141003.out).1
  rw [hl141003_1] at HO_141003
  (try simp only [hl141003_1])
  (try simp only [hl141003_1] at BK140)
  cases gk with
  | zero => exact absurd HA.out (by simp [zF.l0])
  | succ k1 =>
   have H := HA.out
   clear HA
   simp only [zF.l0] at H
   by_cases c6 : x6_1 < a0_2
   ·rw [if_pos c6] at H
    have c6b0 : decide (x6_1 < a0_2) = true := decide_eq_true c6
    clear c6
    obtain ⟨ji7, hji7⟩ : ∃ j_ : Int, (wrap64 ((wrap64 (a1 * a0_2)) + x6_1)) = j_ := ⟨_, rfl⟩
    replace H : (if 0 ≤ (ji7) then (if (ji7) < (x141003_1.length : Int) then (if 0 ≤ (wrap64 ((wrap64 (a2 * a0_2)) + x6_1)) then (if (wrap64 ((wrap64 (a2 * a0_2)) + x6_1)) < (x141003_1.length : Int) then (zF.l0 k1 a1 a2 (wrap64 (x6_1 + 1)) a0_0 a0_1 a0_2 ((x141003_1.set ((ji7) : Int).toNat (rd x141003_1 (wrap64 ((wrap64 (a2 * a0_2)) + x6_1)))).set ((wrap64 ((wrap64 (a2 * a0_2)) + x6_1)) : Int).toNat (rd x141003_1 (ji7)))) else (none)) else (none)) else (none)) else (none)) = some r := by first | (rw [hji7] at H; exact H) | (simp only [hji7] at H ⊢; exact H)
    have hji7w : (IntKind.i64.wrap ((wrap64 (a1 * a0_2)) + x6_1)) = ji7 := (zd _).trans hji7
    by_cases c8 : 0 ≤ (ji7)
    ·rw [if_pos c8] at H
     have c8b0 : decide (0 ≤ (ji7)) = true := decide_eq_true c8
     clear c8
     by_cases c9 : (ji7) < (x141003_1.length : Int)
     ·rw [if_pos c9] at H
      have c9b0 : decide ((ji7) < (x141003_1.length : Int)) = true := decide_eq_true c9
      (try simp only [hl141003_1] at c9b0)
      clear c9
      obtain ⟨ji10, hji10⟩ : ∃ j_ : Int, (wrap64 ((wrap64 (a2 * a0_2)) + x6_1)) = j_ := ⟨_, rfl⟩
      replace H : (if 0 ≤ (ji10) then (if (ji10) < (x141003_1.length : Int) then (zF.l0 k1 a1 a2 (wrap64 (x6_1 + 1)) a0_0 a0_1 a0_2 ((x141003_1.set ((ji7) : Int).toNat (rd x141003_1 (ji10))).set ((ji10) : Int).toNat (rd x141003_1 (ji7)))) else (none)) else (none)) = some r := by first | (rw [hji10] at H; exact H) | (simp only [hji10] at H ⊢; exact H)
      have hji10w : (IntKind.i64.wrap ((wrap64 (a2 * a0_2)) + x6_1)) = ji10 := (zd _).trans hji10
      by_cases c11 : 0 ≤ (ji10)
      ·rw [if_pos c11] at H
       have c11b0 : decide (0 ≤ (ji10)) = true := decide_eq_true c11
       clear c11
       by_cases c12 : (ji10) < (x141003_1.length : Int)
       ·rw [if_pos c12] at H
        have c12b0 : decide ((ji10) < (x141003_1.length : Int)) = true := decide_eq_true c12
        (try simp only [hl141003_1] at c12b0)
        clear c12
        obtain ⟨y143, hy143⟩ : ∃ y_ : List Int, y_ = (x141003_1.set ((ji7) : Int).toNat (rd x141003_1 (ji10))) := ⟨_, rfl⟩
        replace H : (zF.l0 k1 a1 a2 (wrap64 (x6_1 + 1)) a0_0 a0_1 a0_2 (y143.set ((ji10) : Int).toNat (rd x141003_1 (ji7)))) = some r := by first | (rw [hy143]; with_reducible exact H) | (have H2_ := (Option.bind_some _ _).symm.trans H; rw [hy143]; with_reducible exact H2_) | (have H2_ := (Option.bind_some _ _).symm.trans H; with_reducible exact H2_) | with_reducible exact H | (rw [hy143]; exact H) | exact H
        have Ny143 := Aside0.mk hy143
        clear hy143
        obtain ⟨y144, hy144⟩ : ∃ y_ : List Int, y_ = (y143.set ((ji10) : Int).toNat (rd x141003_1 (ji7))) := ⟨_, rfl⟩
        replace H : (zF.l0 k1 a1 a2 (wrap64 (x6_1 + 1)) a0_0 a0_1 a0_2 y144) = some r := by first | (rw [hy144]; with_reducible exact H) | (have H2_ := (Option.bind_some _ _).symm.trans H; rw [hy144]; with_reducible exact H2_) | (have H2_ := (Option.bind_some _ _).symm.trans H; with_reducible exact H2_) | with_reducible exact H | (rw [hy144]; exact H) | exact H
        have Ny144 := Aside0.mk hy144
        clear hy144
        have H' := Aside0.mk H
        clear H
        have hcz15_0 : wr.cell? ⟨gb140, 0, none⟩ = some (.int .i64 a0_0) := (zb BK140.out 0).trans rfl
        have hcz15_1 : wr.cell? ⟨gb140, 1, none⟩ = some (.int .i64 a0_1) := (zb BK140.out 1).trans rfl
        have hcz15_2 : wr.cell? ⟨gb140, 2, none⟩ = some (.int .i64 a0_2) := (zb BK140.out 2).trans rfl
        have hcz15_3 : wr.cell? ⟨gb140, 3, none⟩ = some (.slice Ao4 x141003_1.length co4) := (zb BK140.out 3).trans rfl
        have hfz15_0 := za BK140.out 0; have hfz15_1 := za BK140.out 1; have hfz15_2 := za BK140.out 2; have hfz15_3 := za BK140.out 3
        have p141 : 0 ≤ ((ji7) : Int) := of_decide_eq_true sqA
        have q141 : (ji7) < (x141003_1.length : Int) := of_decide_eq_true sqA
        obtain ⟨ad141, e141, hx141_0⟩ := Kd.qd (Kd.zC HO_141003.out).2.2 (ji7) p141 q141
        cases e141
        replace p141 := eq_true p141
        replace q141 := eq_true q141
        try go_wp2
        have n0_ := Aside0.mk (Kd.jt HO_141003.out)
        have n1_ := Aside0.mk (qn BK140.out)
        have n2_ := Aside0.mk (Kept.drew HK.out)
        have n3_ := Aside0.mk (zL HB.out)
        clear HO_141003 BK140 HK HB; have HO_141003 := n0_; have BK140 := n1_; have HK := n2_; have HB := n3_; clear n0_ n1_ n2_ n3_
        have p142 : 0 ≤ ((ji10) : Int) := of_decide_eq_true sqA
        have q142 : (ji10) < (x141003_1.length : Int) := of_decide_eq_true sqA
        obtain ⟨ad142, e142, hx142_0⟩ := Kd.qd (Kd.zC HO_141003.out).2.2 (ji10) p142 q142
        obtain rfl : ad141 = ad142 := (by injection e142)
        replace p142 := eq_true p142
        replace q142 := eq_true q142
        have p13 : 0 ≤ ((ji7) : Int) := of_decide_eq_true sqA
        have q13 : ((ji7) : Int) < ((x141003_1.length : Int) : Int) := of_decide_eq_true sqA
        obtain ⟨go13, co13, eo13, gb13, gl13, cl13, HG13⟩ := Kd.vu HO_141003.out (by omega)
        (first | cases eo13 | (injection eo13 with ea_ en_ ec_; (first | subst ea_ | (injection ea_ with ea_; subst ea_)); subst ec_; clear en_))
        (try simp only [add_plain] at *)
        have GB13 := Aside0.mk gb13
        have GG13 := Aside0.mk HG13
        clear gb13 gl13 HG13
        have HMgo13 := Aside0.mk (show (P0_3_ go13 ∨ w.heap.size ≤ go13) from (HO_141003.out.1 _ rfl))
        (first | simp only [add_plain] at hx141_0 | skip)
        (first | simp only [add_plain] at hx142_0 | skip)
        obtain ⟨hx13_0, hf13_0⟩ := Kd.jk 0 HO_141003.out ((ji7) : Int) p13 q13
        replace p13 := eq_true p13
        replace q13 := eq_true q13
        have HP17 := Kd.Qg HO_141003.out ((ji7) : Int) (rd x141003_1 (ji10))
        rw [← Ny143.out] at HP17
        have HQ17 := Aside0.mk HP17
        clear HP17
        refine jU (n := 20) (S := fun w' => w'.cell? ⟨gb140, 0, none⟩ = some (.int .i64 a0_0) ∧ w'.cell? ⟨gb140, 1, none⟩ = some (.int .i64 a0_1) ∧ w'.cell? ⟨gb140, 2, none⟩ = some (.int .i64 a0_2) ∧ w'.cell? ⟨gb140, 3, none⟩ = some (.slice (some ⟨go13, 0, none⟩) x141003_1.length co4) ∧ w'.cell? ⟨go13, ((ji10)).toNat, none⟩ = some (.int .i64 (rd x141003_1 (ji10)))) (ds := [19]) #[false, false, false, false, false, false, false, false, false, false, false, false, false, false, false, false, false, false, false, false] (by kernel_rfl) rfl rfl ⟨(zb BK140.out 0).trans rfl, (zb BK140.out 1).trans rfl, (zb BK140.out 2).trans rfl, (zb BK140.out 3).trans rfl, hx142_0⟩ (fun hHeld => ?_); refine qQ zF.Y4 zF.VP (fun HT_ HW_ => ?_)
        generalize wr.drew = w16 at HO_141003 BK140 HK HB GG13 HQ17 hf13_0 hx13_0 hx141_0 hx142_0 hHeld ⊢
        refine zo (i := 0) (N := some 24) (v := ?_) (a' := ?_) #[true, false, false, false, false, false, false, false, false, false, false, false, false, false, false, false, false, false, false, false] rfl rfl (zh HT_.out (by kernel_rfl)) (fun _ _ _ h => h) (Or.inl ⟨by rfl, ?_⟩) ?_ ?_
        rotate_left
        ·intro w'; go_simp; with_reducible rfl
        rotate_left
        ·simp only [Act.put, List.setIfInBounds_toArray, List.set_cons_zero, List.set_cons_succ, zd, zf]; rfl
        refine zo (i := 2) (N := some 26) (v := ?_) (a' := ?_) #[true, false, true, false, false, false, false, false, false, false, false, false, false, false, false, false, false, false, false, false] rfl rfl (zh HT_.out (by kernel_rfl)) (fun _ _ _ h => h) (Or.inl ⟨by rfl, ?_⟩) ?_ ?_
        rotate_left
        ·intro w'; go_simp; with_reducible rfl
        rotate_left
        ·simp only [Act.put, List.setIfInBounds_toArray, List.set_cons_zero, List.set_cons_succ, zd, zf]; rfl
        refine zo (i := 3) (N := some 27) (v := ?_) (a' := ?_) #[true, false, true, true, false, false, false, false, false, false, false, false, false, false, false, false, false, false, false, false] rfl rfl (zh HT_.out (by kernel_rfl)) (fun _ _ _ h => h) (Or.inl ⟨by rfl, ?_⟩) ?_ ?_
        rotate_left
        ·intro w'; go_simp; with_reducible rfl
        rotate_left
        ·simp only [Act.put, List.setIfInBounds_toArray, List.set_cons_zero, List.set_cons_succ, zd, zf]; rfl
        refine zo (i := 6) (N := some 30) (v := ?_) (a' := ?_) #[true, false, true, true, false, false, true, false, false, false, false, false, false, false, false, false, false, false, false, false] rfl rfl (zh HT_.out (by kernel_rfl)) (fun _ _ _ h => h) (Or.inl ⟨by rfl, ?_⟩) ?_ ?_
        rotate_left
        ·intro w'; go_simp; with_reducible rfl
        rotate_left
        ·simp only [Act.put, List.setIfInBounds_toArray, List.set_cons_zero, List.set_cons_succ, zd, zf]; rfl
        refine zo (i := 8) (N := some 32) (v := ?_) (a' := ?_) #[true, false, true, true, false, false, true, false, true, false, false, false, false, false, false, false, false, false, false, false] rfl rfl (zh HT_.out (by kernel_rfl)) (fun _ _ _ h => h) (Or.inl ⟨by rfl, ?_⟩) ?_ ?_
        rotate_left
        ·intro w'; go_simp; with_reducible rfl
        rotate_left
        ·simp only [Act.put, List.setIfInBounds_toArray, List.set_cons_zero, List.set_cons_succ, zd, zf]; rfl
        refine zo (i := 10) (N := some 34) (v := ?_) (a' := ?_) #[true, false, true, true, false, false, true, false, true, false, true, false, false, false, false, false, false, false, false, false] rfl rfl (zh HT_.out (by kernel_rfl)) (fun _ _ _ h => h) (Or.inl ⟨by rfl, ?_⟩) ?_ ?_
        rotate_left
        ·intro w'; go_simp; with_reducible rfl
        rotate_left
        ·simp only [Act.put, List.setIfInBounds_toArray, List.set_cons_zero, List.set_cons_succ, zd, zf]; rfl
        refine zo (i := 11) (N := some 35) (v := ?_) (a' := ?_) #[true, false, true, true, false, false, true, false, true, false, true, true, false, false, false, false, false, false, false, false] rfl rfl (zh HT_.out (by kernel_rfl)) (fun _ _ _ h => h) (Or.inl ⟨by rfl, ?_⟩) ?_ ?_
        rotate_left
        ·intro w'; go_simp; with_reducible rfl
        rotate_left
        ·simp only [Act.put, List.setIfInBounds_toArray, List.set_cons_zero, List.set_cons_succ, zd, zf]; rfl
        refine zo (i := 14) (N := some 38) (v := ?_) (a' := ?_) #[true, false, true, true, false, false, true, false, true, false, true, true, false, false, true, false, false, false, false, false] rfl rfl (zh HT_.out (by kernel_rfl)) (fun _ _ _ h => h) (Or.inl ⟨by rfl, ?_⟩) ?_ ?_
        rotate_left
        ·intro w'; go_simp; with_reducible rfl
        rotate_left
        ·simp only [Act.put, List.setIfInBounds_toArray, List.set_cons_zero, List.set_cons_succ, zd, zf]; rfl
        refine qa (i := 1) (N := some 25) (v := ?_) (a' := ?_) #[true, true, true, true, false, false, true, false, true, false, true, true, false, false, true, false, false, false, false, false] rfl rfl (zA HT_.out HW_.out (by kernel_rfl)) (fun _ _ _ h => h) (Or.inl ⟨by rfl, ?_⟩) hHeld ?_ ?_
        rotate_left
        ·rintro w' ⟨s0, s1, s2, s3, s4⟩; go_simp; with_reducible rfl
        rotate_left
        ·simp only [Act.put, List.setIfInBounds_toArray, List.set_cons_zero, List.set_cons_succ, zd, zf]; rfl
        refine qa (i := 4) (N := some 28) (v := ?_) (a' := ?_) #[true, true, true, true, true, false, true, false, true, false, true, true, false, false, true, false, false, false, false, false] rfl rfl (zA HT_.out HW_.out (by kernel_rfl)) (fun _ _ _ h => h) (Or.inl ⟨by rfl, ?_⟩) hHeld ?_ ?_
        rotate_left
        ·rintro w' ⟨s0, s1, s2, s3, s4⟩; go_simp; with_reducible rfl
        rotate_left
        ·simp only [Act.put, List.setIfInBounds_toArray, List.set_cons_zero, List.set_cons_succ, zd, zf]; rfl
        refine zo (i := 5) (N := some 29) (v := ?_) (a' := ?_) #[true, true, true, true, true, true, true, false, true, false, true, true, false, false, true, false, false, false, false, false] rfl rfl (zh HT_.out (by kernel_rfl)) (fun _ _ _ h => h) (Or.inl ⟨by rfl, ?_⟩) ?_ ?_
        rotate_left
        ·intro w'; go_simp; with_reducible rfl
        rotate_left
        ·simp only [Act.put, List.setIfInBounds_toArray, List.set_cons_zero, List.set_cons_succ, zd, zf]; rfl
        refine zo (i := 7) (N := some 31) (v := ?_) (a' := ?_) #[true, true, true, true, true, true, true, true, true, false, true, true, false, false, true, false, false, false, false, false] rfl rfl (zh HT_.out (by kernel_rfl)) (fun _ _ _ h => h) (Or.inl ⟨by rfl, ?_⟩) ?_ ?_
        rotate_left
        ·intro w'; go_simp; with_reducible rfl
        rotate_left
        ·simp only [Act.put, List.setIfInBounds_toArray, List.set_cons_zero, List.set_cons_succ, zd, zf]; rfl
        refine qa (i := 9) (N := some 33) (v := ?_) (a' := ?_) #[true, true, true, true, true, true, true, true, true, true, true, true, false, false, true, false, false, false, false, false] rfl rfl (zA HT_.out HW_.out (by kernel_rfl)) (fun _ _ _ h => h) (Or.inl ⟨by rfl, ?_⟩) hHeld ?_ ?_
        rotate_left
        ·rintro w' ⟨s0, s1, s2, s3, s4⟩; go_simp; with_reducible rfl
        rotate_left
        ·simp only [Act.put, List.setIfInBounds_toArray, List.set_cons_zero, List.set_cons_succ, zd, zf]; rfl
        refine qa (i := 12) (N := some 36) (v := ?_) (a' := ?_) #[true, true, true, true, true, true, true, true, true, true, true, true, true, false, true, false, false, false, false, false] rfl rfl (zA HT_.out HW_.out (by kernel_rfl)) (fun _ _ _ h => h) (Or.inl ⟨by rfl, ?_⟩) hHeld ?_ ?_
        rotate_left
        ·rintro w' ⟨s0, s1, s2, s3, s4⟩; go_simp; with_reducible rfl
        rotate_left
        ·simp only [Act.put, List.setIfInBounds_toArray, List.set_cons_zero, List.set_cons_succ, zd, zf]; rfl
        refine zo (i := 13) (N := some 37) (v := ?_) (a' := ?_) #[true, true, true, true, true, true, true, true, true, true, true, true, true, true, true, false, false, false, false, false] rfl rfl (zh HT_.out (by kernel_rfl)) (fun _ _ _ h => h) (Or.inl ⟨by rfl, ?_⟩) ?_ ?_
        rotate_left
        ·intro w'; go_simp; with_reducible rfl
        rotate_left
        ·simp only [Act.put, List.setIfInBounds_toArray, List.set_cons_zero, List.set_cons_succ, zd, zf]; rfl
        refine zo (i := 15) (N := some 39) (v := ?_) (a' := ?_) #[true, true, true, true, true, true, true, true, true, true, true, true, true, true, true, true, false, false, false, false] rfl rfl (zh HT_.out (by kernel_rfl)) (fun _ _ _ h => h) (Or.inl ⟨by rfl, ?_⟩) ?_ ?_
        rotate_left
        ·intro w'; go_simp; with_reducible rfl
        rotate_left
        ·simp only [Act.put, List.setIfInBounds_toArray, List.set_cons_zero, List.set_cons_succ, zd, zf]; rfl
        refine zo (i := 16) (N := some 40) (v := ?_) (a' := ?_) #[true, true, true, true, true, true, true, true, true, true, true, true, true, true, true, true, true, false, false, false] rfl rfl (zh HT_.out (by kernel_rfl)) (fun _ _ _ h => h) (Or.inl ⟨by rfl, ?_⟩) ?_ ?_
        rotate_left
        ·intro w'; go_simp; with_reducible rfl
        rotate_left
        ·simp only [Act.put, List.setIfInBounds_toArray, List.set_cons_zero, List.set_cons_succ, zd, zf]; rfl
        refine qa (i := 17) (N := some 41) (v := ?_) (a' := ?_) #[true, true, true, true, true, true, true, true, true, true, true, true, true, true, true, true, true, true, false, false] rfl rfl (zA HT_.out HW_.out (by kernel_rfl)) (fun _ _ _ h => h) (Or.inl ⟨by rfl, ?_⟩) hHeld ?_ ?_
        rotate_left
        ·rintro w' ⟨s0, s1, s2, s3, s4⟩; go_simp; with_reducible rfl
        rotate_left
        ·simp only [Act.put, List.setIfInBounds_toArray, List.set_cons_zero, List.set_cons_succ, zd, zf]; rfl
        refine zo (i := 18) (N := some 42) (v := ?_) (a' := ?_) #[true, true, true, true, true, true, true, true, true, true, true, true, true, true, true, true, true, true, true, false] rfl rfl (zh HT_.out (by kernel_rfl)) (fun _ _ _ h => h) (Or.inl ⟨by rfl, ?_⟩) ?_ ?_
        rotate_left
        ·intro w'; go_simp; with_reducible rfl
        rotate_left
        ·simp only [Act.put, List.setIfInBounds_toArray, List.set_cons_zero, List.set_cons_succ, zd, zf]; rfl
        refine yT (i := 19) (N := none) #[true, true, true, true, true, true, true, true, true, true, true, true, true, true, true, true, true, true, true, true] rfl rfl (ji HT_.out (by kernel_rfl)) (by decide) (fun K hK => ?_)
        refine yi (w1 := ?_) (by rfl) rfl ?_ ?_
        rotate_left
        ·go_simp
         rfl
        refine hK.out _ _ ?_
        clear hK K
        refine vM (jE HT_.out (by kernel_rfl)) ?_
        have n0_ : Aside0 (Kd.R (Kd.int .i64) 3 (w16.setCell ⟨go13, ((ji7) : Int).toNat, none⟩ (.int .i64 (rd x141003_1 (ji10)))) w0.heap.size (fun k_ => (P0_3_ k_ ∨ w.heap.size ≤ k_)) (.slice (some ⟨go13, 0, none⟩) x141003_1.length co4) y143) := ⟨sqR HQ17.out⟩
        have n1_ : Aside0 ((w16.setCell ⟨go13, ((ji7) : Int).toNat, none⟩ (.int .i64 (rd x141003_1 (ji10)))).heap[gb140]? = some (.cells #[.int .i64 a0_0, .int .i64 a0_1, .int .i64 a0_2, .slice (some ⟨go13, 0, none⟩) x141003_1.length co4] 27 (0, 0))) := ⟨by refine sqK ?_; refine zB ?_ (by have h_ := Kd.jr HO_141003.out BK140.out (by decide); intro e_; exact h_ (by rw [e_]; rfl)) _; refine sqK ?_; exact BK140.out⟩
        have n2_ : Aside0 (Kept w (w16.setCell ⟨go13, ((ji7) : Int).toNat, none⟩ (.int .i64 (rd x141003_1 (ji10)))) (fun k_ => P0_3_ k_)) := ⟨by repeat (first | (with_reducible first | exact HK.out | apply Kept.alloc | apply Kept.drewN | apply Kept.drew | refine Kept.setCell ?_ HMgo13.out _ | refine Kept.setCell ?_ (.inr GW140.out) _) | exact HK.out)⟩
        have n3_ : Aside0 (Below w0.heap.size w0 (w16.setCell ⟨go13, ((ji7) : Int).toNat, none⟩ (.int .i64 (rd x141003_1 (ji10))))) := ⟨by repeat (first | (with_reducible first | exact HB.out | apply zZ | apply zW | apply zL | refine zM ?_ GB13.out | refine zM ?_ GE140.out) | exact HB.out)⟩
        (try clear HO_141003); (try clear BK140); (try clear HK); (try clear HB)
        generalize (w16.setCell ⟨go13, ((ji7) : Int).toNat, none⟩ (.int .i64 (rd x141003_1 (ji10)))) = w18 at n0_ n1_ n2_ n3_ ⊢
        have HO_141003 := n0_; have BK140 := n1_; have HK := n2_; have HB := n3_; clear n0_ n1_ n2_ n3_
        have hcz19_0 : w18.cell? ⟨gb140, 0, none⟩ = some (.int .i64 a0_0) := (zb BK140.out 0).trans rfl
        have hcz19_1 : w18.cell? ⟨gb140, 1, none⟩ = some (.int .i64 a0_1) := (zb BK140.out 1).trans rfl
        have hcz19_2 : w18.cell? ⟨gb140, 2, none⟩ = some (.int .i64 a0_2) := (zb BK140.out 2).trans rfl
        have hcz19_3 : w18.cell? ⟨gb140, 3, none⟩ = some (.slice (some ⟨go13, 0, none⟩) x141003_1.length co4) := (zb BK140.out 3).trans rfl
        have hfz19_0 := za BK140.out 0; have hfz19_1 := za BK140.out 1; have hfz19_2 := za BK140.out 2; have hfz19_3 := za BK140.out 3
        have p14 : 0 ≤ ((ji10) : Int) := of_decide_eq_true sqA
        have q14 : ((ji10) : Int) < ((x141003_1.length : Int) : Int) := of_decide_eq_true sqA
        obtain ⟨hx14_0, hf14_0⟩ := Kd.jk 0 HO_141003.out ((ji10) : Int) p14 q14
        replace p14 := eq_true p14
        replace q14 := eq_true q14
        obtain ⟨hy20_, hz20_⟩ := Kd.jk 0 HO_141003.out ((ji10) : Int) (of_decide_eq_true sqA) (of_decide_eq_true sqA)
        have HP20 := Kd.yt HO_141003.out ((ji10) : Int) (rd x141003_1 (ji7))
        try go_wp2_with (first | ((with_reducible refine jF (t := 3) (p := 52) rfl ?_); refine jx (t := 3) (p := 52) (v := ?vo_w21) (w1 := (w18.setCell ⟨go13, ((ji10) : Int).toNat, none⟩ (.int .i64 (rd x141003_1 (ji7))))) ?hg ?ho ?hn ?hr ?_; (case ho => rfl); (case hg => rfl); (case hn => rfl); (case hr => exact sqG); intro w21 hw; have hg : w18.grownBy w21 (some go13) := (by rw [hw]; exact HP20.2); have hp_ : Kd.R (Kd.int .i64) 3 w21 w0.heap.size (fun k_ => (P0_3_ k_ ∨ w.heap.size ≤ k_)) (.slice (some ⟨go13, 0, none⟩) x141003_1.length co4) y144 := (by rw [hw, Ny144.out]; exact HP20.1); clear HP20; have n0_ := Aside0.mk (hp_); have n1_ := Aside0.mk (qm (g := gb140) (o := .cells #[.int .i64 a0_0, .int .i64 a0_1, .int .i64 a0_2, .slice (some ⟨go13, 0, none⟩) x141003_1.length co4] 27 (0, 0)) (sqK BK140.out) hg (Kd.jr HO_141003.out BK140.out (by decide))); have n2_ := Aside0.mk ((by rw [hw]; exact zM (HB.out) GB13.out : Below w0.heap.size w0 w21)); have n3_ := Aside0.mk (Kept.ZA (S := (fun k_ => P0_3_ k_)) hg (by repeat (first | (with_reducible first | exact HK.out | apply Kept.alloc | apply Kept.drewN | apply Kept.drew | refine Kept.setCell ?_ (.inr GW140.out) _) | exact HK.out)) (fun k_ e_ => (HO_141003.out.1 k_ e_))); clear HO_141003; clear BK140; clear HB; clear HK; have HO_141003 := n0_; have BK140 := n1_; have HB := n2_; have HK := n3_; clear n0_ n1_ n2_ n3_; clear hg hw hp_))
        (try simp only [← hl141003_1])
        go_roundg k1
        case measure => have := HK1.out; omega
        case rel => exact ⟨(wrap64 (x6_1 + 1)), (y144), (sqD), H', ⟨by have := HK1.out; omega⟩, ⟨by (try simp only [hl141003_1]); refine sqR ?_; exact HO_141003.out⟩, ⟨by (try simp only [hl141003_1]); refine sqK ?_; exact BK140.out⟩, ⟨by repeat (first | (with_reducible first | exact HK.out | apply Kept.alloc | apply Kept.drewN | apply Kept.drew | refine Kept.setCell ?_ (.inr GW140.out) _) | exact HK.out)⟩, ⟨sqB⟩⟩
       ·rw [if_neg c12] at H
        exact absurd H (by simp)
      ·rw [if_neg c11] at H
       exact absurd H (by simp)
     ·rw [if_neg c9] at H
      exact absurd H (by simp)
    ·rw [if_neg c8] at H
     exact absurd H (by simp)
   ·rw [if_neg c6] at H
    have c6b0 : decide (x6_1 < a0_2) = false := decide_eq_false c6
    clear c6
    obtain rfl := Option.some.inj H
    have hcz22_0 : wr.cell? ⟨gb140, 0, none⟩ = some (.int .i64 a0_0) := (zb BK140.out 0).trans rfl
    have hcz22_1 : wr.cell? ⟨gb140, 1, none⟩ = some (.int .i64 a0_1) := (zb BK140.out 1).trans rfl
    have hcz22_2 : wr.cell? ⟨gb140, 2, none⟩ = some (.int .i64 a0_2) := (zb BK140.out 2).trans rfl
    have hcz22_3 : wr.cell? ⟨gb140, 3, none⟩ = some (.slice Ao4 x141003_1.length co4) := (zb BK140.out 3).trans rfl
    have hfz22_0 := za BK140.out 0; have hfz22_1 := za BK140.out 1; have hfz22_2 := za BK140.out 2; have hfz22_3 := za BK140.out 3
    go_wp2
    first | go_end0 | ((try simp only [Exit.inBlock, Exit.then]); refine bodyPost_ret (results_none rfl _ _ _) rfl ?_)
    exact ⟨sqE, (by first | exact (sqR HO_141003.out) | (simp only [hl141003_1]; exact (sqR HO_141003.out))), sqB, by repeat (first | (with_reducible first | exact HK.out | apply Kept.alloc | apply Kept.drewN | apply Kept.drew | refine Kept.setCell ?_ (.inr GW140.out) _) | exact HK.out)⟩

mutual
def zp.j0 : Nat → Int → Int → Bool → Option (Int)
 | 0, _, _, _ => none
 | k + 1, x0, x1, x15 => if x15 = true then (some 0) else (zp.l0 k x0 x1 1)
def zp.l0 : Nat → Int → Int → Int → Option (Int)
 | 0, _, _, _ => none
 | k + 1, x0, x1, x5 => if x5 < x0 then (if x0 = 0 then (none) else (if (Int.tmod (wrap64 (x1 * x5)) x0) = 1 then (some x5) else (zp.l0 k x0 x1 (wrap64 (x5 + 1))))) else (some 0)
end
def zp.f (k : Nat) (a0 : Int) (a1 : Int) : Option (Int) := (zD.f a0).bind fun t145 => (if t145 = true then ((zu.f a1 1 (wrap64 (a0 - 1))).bind fun t146 => (zp.j0 k a0 a1 (!t146))) else (zp.j0 k a0 a1 true))
theorem zp.calls (k : Nat) (a0 : Int) (a1 : Int) (r : Int) (w : World) (h : zp.f k a0 a1 = some r) :
  Calls Try.prog 73 #[.int .i64 a0, .int .i64 a1] w fun e w' => e = .returned (.int .i64 r) ∧ zn w w' := by
 have H : ((zD.f a0).bind fun t145 => (if t145 = true then ((zu.f a1 1 (wrap64 (a0 - 1))).bind fun t146 => (zp.j0 k a0 a1 (!t146))) else (zp.j0 k a0 a1 true))) = some r := h
 clear h
 have HC3 := Aside0.mk H
 clear H
 go_enter Try.func73, Try.ntmps73
 go_upto_region 1 with (fail)
 go_cut [15] (fun v15 wc => ∃ (kq : Nat) (x15_2 : Bool), v15 = .bool x15_2 ∧ Aside0 (zp.j0 kq a0 a1 x15_2 = some r) ∧ Aside0 (kq ≤ k) ∧ zn w wc)
 case first =>
  have H := HC3.out
  clear HC3
  replace H := Option.bind_eq_some_iff.mp H
  obtain ⟨t145, A40, H⟩ := H
  replace H : (if t145 = true then ((zu.f a1 1 (wrap64 (a0 - 1))).bind fun t146 => (zp.j0 k a0 a1 (!t146))) else (zp.j0 k a0 a1 true)) = some r := H
  have A4 := Aside0.mk A40
  clear A40
  by_cases c5 : t145 = true
  ·subst c5
   have H1 : ((zu.f a1 1 (wrap64 (a0 - 1))).bind fun t146 => (zp.j0 k a0 a1 (!t146))) = some r := by rw [if_pos rfl] at H; exact H
   clear H
   have H := H1
   clear H1
   replace H := Option.bind_eq_some_iff.mp H
   obtain ⟨t146, A60, H⟩ := H
   replace H : (zp.j0 k a0 a1 (!t146)) = some r := H
   have A6 := Aside0.mk A60
   clear A60
   have H' := Aside0.mk H
   clear H
   go_wp2_with (first | ((with_reducible refine zt (f := 66) rfl ?_); refine zN (some 7) rfl rfl Try.func66 (by kernel_rfl) rfl #[.int .i64 a0] rfl sqM ?_; (with_reducible refine (zD.calls a0 true _ A4.out).mono ?_); rintro e w' ⟨rfl, ⟨nd, rfl⟩⟩; refine ⟨_, rfl, ?_⟩) | (go_at_call 43; (try simp only [zd, zf]); (with_reducible refine (zu.calls a1 1 (wrap64 (a0 - 1)) t146 _ A6.out).mono ?_); rintro e w' ⟨rfl, ⟨nd, rfl⟩⟩))
   go_meet
   case rel => exact ⟨_, (!t146), (sqD), H', ⟨by first | omega | exact Nat.le_refl _⟩, by repeat (first | exact zn.refl _ | apply zn.step)⟩
  ·replace c5 := Bool.eq_false_iff.mpr c5
   subst c5
   have H1 : (zp.j0 k a0 a1 true) = some r := by rw [if_neg (show ¬ (false = true) by decide)] at H; exact H
   clear H
   have H := H1
   clear H1
   have H' := Aside0.mk H
   clear H
   go_wp2_with (first | ((with_reducible refine zt (f := 66) rfl ?_); refine zN (some 7) rfl rfl Try.func66 (by kernel_rfl) rfl #[.int .i64 a0] rfl sqM ?_; (with_reducible refine (zD.calls a0 false _ A4.out).mono ?_); rintro e w' ⟨rfl, ⟨nd, rfl⟩⟩; refine ⟨_, rfl, ?_⟩))
   go_meet
   case rel => exact ⟨_, (true), (sqD), H', ⟨by first | omega | exact Nat.le_refl _⟩, by repeat (first | exact zn.refl _ | apply zn.step)⟩
 case rest =>
  clear HC3
  try clear p2
  try clear c5
  try clear c6
  try clear p6
  obtain ⟨kq, x15_2, rfl, HA, HJ2, ⟨mc2, rfl⟩⟩ := hcut
  cases kq with
  | zero => exact absurd HA.out (by simp [zp.j0])
  | succ kj2 =>
   have H := HA.out
   clear HA
   simp only [zp.j0] at H
   by_cases c7 : x15_2 = true
   ·subst c7
    have H1 : (some 0) = some r := by rw [if_pos rfl] at H; exact H
    clear H
    have H := H1
    clear H1
    obtain rfl := Option.some.inj H
    go_wp2
    go_ret
    exact ⟨sqD, by repeat (first | exact zn.refl _ | apply zn.step)⟩
   ·replace c7 := Bool.eq_false_iff.mpr c7
    subst c7
    have H1 : (zp.l0 kj2 a0 a1 1) = some r := by rw [if_neg (show ¬ (false = true) by decide)] at H; exact H
    clear H
    have H := H1
    clear H1
    have H' := Aside0.mk H
    clear H
    go_wp2
    go_loopg [5] kj2 (fun kq v5 w' => ∃ (x5_2 : Int), v5 = .int .i64 x5_2 ∧ Aside0 (zp.l0 kq a0 a1 x5_2 = some r) ∧ Aside0 (kq ≤ kj2) ∧ zn w w')
    case atStart => exact ⟨(1), (sqD), H', ⟨Nat.le_refl _⟩, by repeat (first | exact zn.refl _ | apply zn.step)⟩
    case round =>
     clear H'
     try clear c2
     try clear p2
     try clear c5
     try clear c6
     try clear p6
     try clear c7
     try clear p2
     try clear p6
     obtain ⟨x5_2, rfl, HA, HK2, ⟨m2, rfl⟩⟩ := hrel
     cases gk with
     | zero => exact absurd HA.out (by simp [zp.l0])
     | succ k2 =>
      have H := HA.out
      clear HA
      simp only [zp.l0] at H
      by_cases c8 : x5_2 < a0
      ·rw [if_pos c8] at H
       have c8b0 : decide (x5_2 < a0) = true := decide_eq_true c8
       clear c8
       by_cases c9 : a0 = 0
       ·rw [if_pos c9] at H
        exact absurd H (by simp)
       ·rw [if_neg c9] at H
        have c9b0 : (a0 == 0) = false := beq_eq_false_iff_ne.mpr c9
        have c9b1 : (a0 != 0) = true := bne_iff_ne.mpr c9
        by_cases c10 : (Int.tmod (wrap64 (a1 * x5_2)) a0) = 1
        ·rw [if_pos c10] at H
         have c10b0 : ((Int.tmod (wrap64 (a1 * x5_2)) a0) == 1) = true := beq_iff_eq.mpr c10
         have c10b1 : ((Int.tmod (wrap64 (a1 * x5_2)) a0) != 1) = false := bne_eq_false_iff_eq.mpr c10
         clear c10
         obtain rfl := Option.some.inj H
         go_wp2
         go_ret
         exact ⟨sqD, by repeat (first | exact zn.refl _ | apply zn.step)⟩
        ·rw [if_neg c10] at H
         have c10b0 : ((Int.tmod (wrap64 (a1 * x5_2)) a0) == 1) = false := beq_eq_false_iff_ne.mpr c10
         have c10b1 : ((Int.tmod (wrap64 (a1 * x5_2)) a0) != 1) = true := bne_iff_ne.mpr c10
         have H' := Aside0.mk H
         clear H
         go_wp2
         go_roundg k2
         case measure => have := HJ2.out; have := HK2.out; omega
         case rel => exact ⟨(wrap64 (x5_2 + 1)), (sqD), H', ⟨by have := HJ2.out; have := HK2.out; omega⟩, by repeat (first | exact zn.refl _ | apply zn.step)⟩
      ·rw [if_neg c8] at H
       have c8b0 : decide (x5_2 < a0) = false := decide_eq_false c8
       clear c8
       obtain rfl := Option.some.inj H
       go_wp2
       go_ret
       exact ⟨sqD, by repeat (first | exact zn.refl _ | apply zn.step)⟩

mutual
def zg.l0 : Nat → Int → Int → Int → Int → Int → Int → Int → List Int → Option (List Int)
 | 0, _, _, _, _, _, _, _, _ => none
 | k + 1, x1, x2, x6, x7, x148000, x148001, x148002, x148003 => if x7 < x148002 then (if 0 ≤ (wrap64 ((wrap64 (x1 * x148002)) + x7)) then (if (wrap64 ((wrap64 (x1 * x148002)) + x7)) < (x148003.length : Int) then (if x148000 = 0 then (none) else (zg.l0 k x1 x2 x6 (wrap64 (x7 + 1)) x148000 x148001 x148002 (x148003.set ((wrap64 ((wrap64 (x1 * x148002)) + x7)) : Int).toNat (Int.tmod (wrap64 ((rd x148003 (wrap64 ((wrap64 (x1 * x148002)) + x7))) * x6)) x148000)))) else (none)) else (none)) else (zg.l1 k x1 x2 0 x148000 x148001 x148002 x148003)
def zg.l1 : Nat → Int → Int → Int → Int → Int → Int → List Int → Option (List Int)
 | 0, _, _, _, _, _, _, _ => none
 | k + 1, x1, x2, x8, x148000, x148001, x148002, x148003 => if x8 < x148001 then (if 0 ≤ (wrap64 ((wrap64 (x8 * x148002)) + x2)) then (if (wrap64 ((wrap64 (x8 * x148002)) + x2)) < (x148003.length : Int) then (zg.l2 k x1 x2 x8 (rd x148003 (wrap64 ((wrap64 (x8 * x148002)) + x2))) 0 x148000 x148001 x148002 x148003) else (none)) else (none)) else (some x148003)
def zg.l2 : Nat → Int → Int → Int → Int → Int → Int → Int → Int → List Int → Option (List Int)
 | 0, _, _, _, _, _, _, _, _, _ => none
 | k + 1, x1, x2, x8, x9, x10, x148000, x148001, x148002, x148003 => if x10 < x148002 then (if x8 = x1 then (zg.l1 k x1 x2 (wrap64 (x8 + 1)) x148000 x148001 x148002 x148003) else (if 0 ≤ (wrap64 ((wrap64 (x8 * x148002)) + x10)) then (if (wrap64 ((wrap64 (x8 * x148002)) + x10)) < (x148003.length : Int) then (if 0 ≤ (wrap64 ((wrap64 (x1 * x148002)) + x10)) then (if (wrap64 ((wrap64 (x1 * x148002)) + x10)) < (x148003.length : Int) then (if x148000 = 0 then (none) else (zg.l2 k x1 x2 x8 x9 (wrap64 (x10 + 1)) x148000 x148001 x148002 (x148003.set ((wrap64 ((wrap64 (x8 * x148002)) + x10)) : Int).toNat (Int.tmod (wrap64 ((rd x148003 (wrap64 ((wrap64 (x8 * x148002)) + x10))) + (wrap64 ((wrap64 (x148000 - x9)) * (rd x148003 (wrap64 ((wrap64 (x1 * x148002)) + x10))))))) x148000)))) else (none)) else (none)) else (none)) else (none))) else (zg.l1 k x1 x2 (wrap64 (x8 + 1)) x148000 x148001 x148002 x148003)
end
def zg.f (k : Nat) (a0_0 : Int) (a0_1 : Int) (a0_2 : Int) (l0_3 : List Int) (a1 : Int) (a2 : Int) : Option (List Int) := if 0 ≤ (wrap64 ((wrap64 (a1 * a0_2)) + a2)) then (if (wrap64 ((wrap64 (a1 * a0_2)) + a2)) < (l0_3.length : Int) then ((zp.f k a0_0 (rd l0_3 (wrap64 ((wrap64 (a1 * a0_2)) + a2)))).bind fun t149 => (zg.l0 k a1 a2 t149 0 a0_0 a0_1 a0_2 l0_3)) else (none)) else (none)
def zg.T1 : Bool × List (List Nat × List Nat) := (true, [([], []), ([0], [0]), ([], []), ([2], [2]), ([], []), ([], []), ([5], [5]), ([4, 6], [4, 6]), ([], []), ([7, 8], [7, 8]), ([3, 9], [3, 9]), ([10], [10]), ([1, 11], [1, 11]), ([12, 12, 0, 1, 2, 3, 4, 5, 6, 7, 8, 9, 10, 11, 12], [12])])
def zg.B1 : List Nat := [0, 1, 0, 4, 0, 0, 32, 112, 0, 496, 1020, 2044, 4095, 8191]
theorem zg.Y2 : jo .any (opsOf Try.f62 1) = zg.T1 := by kernel_rfl
theorem zg.Vt : q8 zg.T1.2 zg.B1 = true := by kernel_rfl
def zg.T5 : Bool × List (List Nat × List Nat) := (true, [([], []), ([0], [0]), ([], []), ([], []), ([3], [3]), ([2, 4], [2, 4]), ([], []), ([5, 6], [5, 6]), ([], []), ([8], [8]), ([], []), ([], []), ([11], [11]), ([10, 12], [10, 12]), ([], []), ([13, 14], [13, 14]), ([9, 15], [9, 15]), ([16], [16]), ([], []), ([17, 18], [17, 18]), ([], []), ([20], [20]), ([19, 21], [19, 21]), ([1, 7, 0, 1, 2, 3, 4, 5, 6, 7, 8, 9, 10, 11, 12, 13, 14, 15, 16, 17, 18, 19, 20, 21, 22], [1, 7]), ([23, 22, 0, 1, 2, 3, 4, 5, 6, 7, 8, 9, 10, 11, 12, 13, 14, 15, 16, 17, 18, 19, 20, 21, 22], [22, 23])])
def zg.B5 : List Nat := [0, 1, 0, 0, 8, 28, 0, 124, 0, 256, 0, 0, 2048, 7168, 0, 31744, 65280, 130816, 0, 524032, 0, 1048576, 4194048, 8388607, 16777215]
theorem zg.Y4 : jo .any (opsOf Try.f62 5) = zg.T5 := by kernel_rfl
theorem zg.VP : q8 zg.T5.2 zg.B5 = true := by kernel_rfl
def zg.T13 : Bool × List (List Nat × List Nat) := (true, [([], []), ([0], [0]), ([], []), ([], []), ([3], [3]), ([2, 4], [2, 4]), ([], []), ([5, 6], [5, 6]), ([], []), ([8], [8]), ([], []), ([], []), ([11], [11]), ([10, 12], [10, 12]), ([], []), ([13, 14], [13, 14]), ([9, 15], [9, 15]), ([16], [16]), ([], []), ([18], [18]), ([], []), ([19, 20], [19, 20]), ([], []), ([22], [22]), ([], []), ([], []), ([25], [25]), ([24, 26], [24, 26]), ([], []), ([27, 28], [27, 28]), ([23, 29], [23, 29]), ([30], [30]), ([21, 31], [21, 31]), ([17, 32], [17, 32]), ([], []), ([34], [34]), ([33, 35], [33, 35]), ([1, 7, 0, 1, 2, 3, 4, 5, 6, 7, 8, 9, 10, 11, 12, 13, 14, 15, 16, 17, 18, 19, 20, 21, 22, 23, 24, 25, 26, 27, 28, 29, 30, 31, 32, 33, 34, 35, 36], [1, 7]), ([37, 36, 0, 1, 2, 3, 4, 5, 6, 7, 8, 9, 10, 11, 12, 13, 14, 15, 16, 17, 18, 19, 20, 21, 22, 23, 24, 25, 26, 27, 28, 29, 30, 31, 32, 33, 34, 35, 36], [36, 37])])
def zg.B13 : List Nat := [0, 1, 0, 0, 8, 28, 0, 124, 0, 256, 0, 0, 2048, 7168, 0, 31744, 65280, 130816, 0, 262144, 0, 1835008, 0, 4194304, 0, 0, 33554432, 117440512, 0, 520093696, 1069547520, 2143289344, 4294705152, 8589934336, 0, 17179869184, 68719476480, 137438953471, 274877906943]
theorem zg.zad : jo .any (opsOf Try.f62 13) = zg.T13 := by kernel_rfl
theorem zg.Y0 : q8 zg.T13.2 zg.B13 = true := by kernel_rfl
theorem zg.calls (k : Nat) (a0_0 : Int) (a0_1 : Int) (a0_2 : Int) (P0_3_ : Nat → Prop) (u9000_ : Value) (l0_3 : List Int) (a1 : Int) (a2 : Int) (r : List Int) (w0 w : World) (hB : Below w0.heap.size w0 w) (ho0_3 : Kd.R (Kd.int .i64) 3 w w0.heap.size P0_3_ u9000_ l0_3) (h : zg.f k a0_0 a0_1 a0_2 l0_3 a1 a2 = some r) :
  Calls Try.prog 62 #[.agg #[.int .i64 a0_0, .int .i64 a0_1, .int .i64 a0_2, u9000_], .int .i64 a1, .int .i64 a2] w fun e w' => e = .returned (.tuple #[]) ∧ Kd.R (Kd.int .i64) 3 w' w0.heap.size (fun k_ => (P0_3_ k_ ∨ w.heap.size ≤ k_)) u9000_ r ∧ Below w0.heap.size w0 w' ∧ Kept w w' (fun k_ => P0_3_ k_) := by
 have hu27 := Try.underlying27
 have HO0_3 := Aside0.mk (show Kd.R (Kd.int .i64) 3 w w0.heap.size (fun k_ => (P0_3_ k_ ∨ w.heap.size ≤ k_)) u9000_ l0_3 from Kd.zO ho0_3 (fun k_ hk => (.inl hk)))
 have HK := Aside0.mk (Kept.refl w (fun k_ => P0_3_ k_))
 have HW0 := Aside0.mk hB.size
 have HB := Aside0.mk hB
 clear hB
 have H : (if 0 ≤ (wrap64 ((wrap64 (a1 * a0_2)) + a2)) then (if (wrap64 ((wrap64 (a1 * a0_2)) + a2)) < (l0_3.length : Int) then ((zp.f k a0_0 (rd l0_3 (wrap64 ((wrap64 (a1 * a0_2)) + a2)))).bind fun t149 => (zg.l0 k a1 a2 t149 0 a0_0 a0_1 a0_2 l0_3)) else (none)) else (none)) = some r := h
 clear h
 obtain ⟨ji4, hji4⟩ : ∃ j_ : Int, (wrap64 ((wrap64 (a1 * a0_2)) + a2)) = j_ := ⟨_, rfl⟩
 replace H : (if 0 ≤ (ji4) then (if (ji4) < (l0_3.length : Int) then ((zp.f k a0_0 (rd l0_3 (ji4))).bind fun t149 => (zg.l0 k a1 a2 t149 0 a0_0 a0_1 a0_2 l0_3)) else (none)) else (none)) = some r := by first | (rw [hji4] at H; exact H) | (simp only [hji4] at H ⊢; exact H)
 have hji4w : (IntKind.i64.wrap ((wrap64 (a1 * a0_2)) + a2)) = ji4 := (zd _).trans hji4
 by_cases c5 : 0 ≤ (ji4)
 ·rw [if_pos c5] at H
  have c5b0 : decide (0 ≤ (ji4)) = true := decide_eq_true c5
  clear c5
  by_cases c6 : (ji4) < (l0_3.length : Int)
  ·rw [if_pos c6] at H
   have c6b0 : decide ((ji4) < (l0_3.length : Int)) = true := decide_eq_true c6
   clear c6
   replace H := Option.bind_eq_some_iff.mp H
   obtain ⟨t149, A70, H⟩ := H
   replace H : (zg.l0 k a1 a2 t149 0 a0_0 a0_1 a0_2 l0_3) = some r := H
   have A7 := Aside0.mk A70
   clear A70
   have H' := Aside0.mk H
   clear H
   obtain ⟨Ao8, co8, eo8⟩ := Kd.z1 HO0_3.out
   subst eo8
   go_enter Try.func62, Try.ntmps62
   try go_wp2_with (first | ((with_reducible refine zx (N := 3) rfl ?_); refine zy ?hg (N := 3) ?hd (cs := #[.int .i64 a0_0, .int .i64 a0_1, .int .i64 a0_2, .slice Ao8 l0_3.length co8]) (t := 27) ?hr ?_; (case hd => rfl); (case hg => rfl); (case hr => exact sqG); intro gb147 hg w9 hbox hb; have n0_ := Aside0.mk (Kd.qo (sqR HO0_3.out) hb); have n1_ := Aside0.mk (Kept.below (S := (fun k_ => P0_3_ k_)) (by repeat (first | (with_reducible first | exact HK.out | apply Kept.alloc | apply Kept.drewN | apply Kept.drew) | exact HK.out)) hb); have n2_ := Aside0.mk (zj sqB hb); have n3_ := Aside0.mk (hbox); have n4_ := Aside0.mk ((by rw [hg]; exact (by first | exact HK.out.1 | exact (show Kept w _ (fun k_ => P0_3_ k_) from by repeat (first | (with_reducible first | exact HK.out | apply Kept.alloc | apply Kept.drewN | apply Kept.drew) | exact HK.out)).1) : w.heap.size ≤ gb147)); have n5_ := Aside0.mk ((sqS hg : w0.heap.size ≤ gb147)); clear HO0_3; clear HK; clear HB; have HO0_3 := n0_; have HK := n1_; have HB := n2_; have BK147 := n3_; have GW147 := n4_; have GE147 := n5_; clear n0_ n1_ n2_ n3_ n4_ n5_; clear hb hbox hg))
   have n0_ := Aside0.mk (Kd.jt HO0_3.out)
   have n1_ := Aside0.mk (qn BK147.out)
   have n2_ := Aside0.mk (Kept.drew HK.out)
   have n3_ := Aside0.mk (zL HB.out)
   clear HO0_3 BK147 HK HB; have HO0_3 := n0_; have BK147 := n1_; have HK := n2_; have HB := n3_; clear n0_ n1_ n2_ n3_
   have p148 : 0 ≤ ((ji4) : Int) := of_decide_eq_true sqA
   have q148 : (ji4) < (l0_3.length : Int) := of_decide_eq_true sqA
   obtain ⟨ad148, e148, hx148_0⟩ := Kd.qd (Kd.zC HO0_3.out).2.2 (ji4) p148 q148
   cases e148
   replace p148 := eq_true p148
   replace q148 := eq_true q148
   refine jU (n := 14) (S := fun w' => w'.cell? ⟨gb147, 0, none⟩ = some (.int .i64 a0_0) ∧ w'.cell? ⟨gb147, 1, none⟩ = some (.int .i64 a0_1) ∧ w'.cell? ⟨gb147, 2, none⟩ = some (.int .i64 a0_2) ∧ w'.cell? ⟨gb147, 3, none⟩ = some (.slice (some ad148) l0_3.length co8) ∧ w'.cell? (ad148.add ((ji4)).toNat) = some (.int .i64 (rd l0_3 (ji4)))) (ds := []) #[false, false, false, false, false, false, false, false, false, false, false, false, false, false] (by kernel_rfl) rfl rfl ⟨(zb BK147.out 0).trans rfl, (zb BK147.out 1).trans rfl, (zb BK147.out 2).trans rfl, (zb BK147.out 3).trans rfl, hx148_0⟩ (fun hHeld => ?_); refine qQ zg.Y2 zg.Vt (fun HT_ HW_ => ?_)
   generalize w9.drew = w10 at HO0_3 BK147 HK HB hx148_0 hHeld ⊢
   refine zo (i := 0) (N := some 11) (v := ?_) (a' := ?_) #[true, false, false, false, false, false, false, false, false, false, false, false, false, false] rfl rfl (zh HT_.out (by kernel_rfl)) (fun _ _ _ h => h) (Or.inl ⟨by rfl, ?_⟩) ?_ ?_
   rotate_left
   ·intro w'; go_simp; with_reducible rfl
   rotate_left
   ·simp only [Act.put, List.setIfInBounds_toArray, List.set_cons_zero, List.set_cons_succ, zd, zf]; rfl
   refine zo (i := 2) (N := some 13) (v := ?_) (a' := ?_) #[true, false, true, false, false, false, false, false, false, false, false, false, false, false] rfl rfl (zh HT_.out (by kernel_rfl)) (fun _ _ _ h => h) (Or.inl ⟨by rfl, ?_⟩) ?_ ?_
   rotate_left
   ·intro w'; go_simp; with_reducible rfl
   rotate_left
   ·simp only [Act.put, List.setIfInBounds_toArray, List.set_cons_zero, List.set_cons_succ, zd, zf]; rfl
   refine zo (i := 4) (N := some 15) (v := ?_) (a' := ?_) #[true, false, true, false, true, false, false, false, false, false, false, false, false, false] rfl rfl (zh HT_.out (by kernel_rfl)) (fun _ _ _ h => h) (Or.inl ⟨by rfl, ?_⟩) ?_ ?_
   rotate_left
   ·intro w'; go_simp; with_reducible rfl
   rotate_left
   ·simp only [Act.put, List.setIfInBounds_toArray, List.set_cons_zero, List.set_cons_succ, zd, zf]; rfl
   refine zo (i := 5) (N := some 16) (v := ?_) (a' := ?_) #[true, false, true, false, true, true, false, false, false, false, false, false, false, false] rfl rfl (zh HT_.out (by kernel_rfl)) (fun _ _ _ h => h) (Or.inl ⟨by rfl, ?_⟩) ?_ ?_
   rotate_left
   ·intro w'; go_simp; with_reducible rfl
   rotate_left
   ·simp only [Act.put, List.setIfInBounds_toArray, List.set_cons_zero, List.set_cons_succ, zd, zf]; rfl
   refine zo (i := 8) (N := some 19) (v := ?_) (a' := ?_) #[true, false, true, false, true, true, false, false, true, false, false, false, false, false] rfl rfl (zh HT_.out (by kernel_rfl)) (fun _ _ _ h => h) (Or.inl ⟨by rfl, ?_⟩) ?_ ?_
   rotate_left
   ·intro w'; go_simp; with_reducible rfl
   rotate_left
   ·simp only [Act.put, List.setIfInBounds_toArray, List.set_cons_zero, List.set_cons_succ, zd, zf]; rfl
   refine qa (i := 1) (N := some 12) (v := ?_) (a' := ?_) #[true, true, true, false, true, true, false, false, true, false, false, false, false, false] rfl rfl (zA HT_.out HW_.out (by kernel_rfl)) (fun _ _ _ h => h) (Or.inl ⟨by rfl, ?_⟩) hHeld ?_ ?_
   rotate_left
   ·rintro w' ⟨s0, s1, s2, s3, s4⟩; go_simp; with_reducible rfl
   rotate_left
   ·simp only [Act.put, List.setIfInBounds_toArray, List.set_cons_zero, List.set_cons_succ, zd, zf]; rfl
   refine qa (i := 3) (N := some 14) (v := ?_) (a' := ?_) #[true, true, true, true, true, true, false, false, true, false, false, false, false, false] rfl rfl (zA HT_.out HW_.out (by kernel_rfl)) (fun _ _ _ h => h) (Or.inl ⟨by rfl, ?_⟩) hHeld ?_ ?_
   rotate_left
   ·rintro w' ⟨s0, s1, s2, s3, s4⟩; go_simp; with_reducible rfl
   rotate_left
   ·simp only [Act.put, List.setIfInBounds_toArray, List.set_cons_zero, List.set_cons_succ, zd, zf]; rfl
   refine qa (i := 6) (N := some 17) (v := ?_) (a' := ?_) #[true, true, true, true, true, true, true, false, true, false, false, false, false, false] rfl rfl (zA HT_.out HW_.out (by kernel_rfl)) (fun _ _ _ h => h) (Or.inl ⟨by rfl, ?_⟩) hHeld ?_ ?_
   rotate_left
   ·rintro w' ⟨s0, s1, s2, s3, s4⟩; go_simp; with_reducible rfl
   rotate_left
   ·simp only [Act.put, List.setIfInBounds_toArray, List.set_cons_zero, List.set_cons_succ, zd, zf]; rfl
   refine zo (i := 7) (N := some 18) (v := ?_) (a' := ?_) #[true, true, true, true, true, true, true, true, true, false, false, false, false, false] rfl rfl (zh HT_.out (by kernel_rfl)) (fun _ _ _ h => h) (Or.inl ⟨by rfl, ?_⟩) ?_ ?_
   rotate_left
   ·intro w'; go_simp; with_reducible rfl
   rotate_left
   ·simp only [Act.put, List.setIfInBounds_toArray, List.set_cons_zero, List.set_cons_succ, zd, zf]; rfl
   refine zo (i := 9) (N := some 20) (v := ?_) (a' := ?_) #[true, true, true, true, true, true, true, true, true, true, false, false, false, false] rfl rfl (zh HT_.out (by kernel_rfl)) (fun _ _ _ h => h) (Or.inl ⟨by rfl, ?_⟩) ?_ ?_
   rotate_left
   ·intro w'; go_simp; with_reducible rfl
   rotate_left
   ·simp only [Act.put, List.setIfInBounds_toArray, List.set_cons_zero, List.set_cons_succ, zd, zf]; rfl
   refine zo (i := 10) (N := some 21) (v := ?_) (a' := ?_) #[true, true, true, true, true, true, true, true, true, true, true, false, false, false] rfl rfl (zh HT_.out (by kernel_rfl)) (fun _ _ _ h => h) (Or.inl ⟨by rfl, ?_⟩) ?_ ?_
   rotate_left
   ·intro w'; go_simp; with_reducible rfl
   rotate_left
   ·simp only [Act.put, List.setIfInBounds_toArray, List.set_cons_zero, List.set_cons_succ, zd, zf]; rfl
   refine qa (i := 11) (N := some 22) (v := ?_) (a' := ?_) #[true, true, true, true, true, true, true, true, true, true, true, true, false, false] rfl rfl (zA HT_.out HW_.out (by kernel_rfl)) (fun _ _ _ h => h) (Or.inl ⟨by rfl, ?_⟩) hHeld ?_ ?_
   rotate_left
   ·rintro w' ⟨s0, s1, s2, s3, s4⟩; go_simp; with_reducible rfl
   rotate_left
   ·simp only [Act.put, List.setIfInBounds_toArray, List.set_cons_zero, List.set_cons_succ, zd, zf]; rfl
   refine ZP (i := 12) (N := some 23) #[true, true, true, true, true, true, true, true, true, true, true, true, true, false] rfl rfl (ji HT_.out (by kernel_rfl)) (by decide) (fun K hK => ?_)
   refine Z0 Try.func73 (by kernel_rfl) rfl #[.int .i64 a0_0, .int .i64 (rd l0_3 (ji4))] (by rfl) rfl rfl (by (try simp only [List.map_toArray, List.map_cons, List.map_nil]); first | done | (simp only [hji4]; rfl) | rfl | (simp only [List.length_drop, List.length_take]; rfl)) ?_
   with_reducible refine (zp.calls k a0_0 (rd l0_3 (ji4)) t149 _ A7.out).mono ?_
   rintro e w' ⟨rfl, ⟨nd, rfl⟩⟩
   refine ⟨_, rfl, ?_⟩
   refine hK.out _ _ ⟨(zb BK147.out 0).trans rfl, (zb BK147.out 1).trans rfl, (zb BK147.out 2).trans rfl, (zb BK147.out 3).trans rfl, hHeld.2.2.2.2⟩ (fun hHeld => ?_)
   clear hK K
   refine yC (a' := ?_) ?_ ?_
   rotate_left
   ·show Act.put _ (some 23) _ = _; simp only [Act.put, List.setIfInBounds_toArray, List.set_cons_zero, List.set_cons_succ, zd, zf]; rfl
   refine zo (i := 13) (N := some 6) (v := ?_) (a' := ?_) #[true, true, true, true, true, true, true, true, true, true, true, true, true, true] rfl rfl (zh HT_.out (by kernel_rfl)) (fun _ _ _ h => h) (Or.inl ⟨by rfl, ?_⟩) ?_ ?_
   rotate_left
   ·intro w'; go_simp; with_reducible rfl
   rotate_left
   ·simp only [Act.put, List.setIfInBounds_toArray, List.set_cons_zero, List.set_cons_succ, zd, zf]; rfl
   refine vM (jE HT_.out (by kernel_rfl)) ?_
   try go_wp2
   go_loopg [7] k (fun kq v7 w' => ∃ (x7_1 : Int) (x148003_1 : List Int), v7 = .int .i64 x7_1 ∧ Aside0 (zg.l0 kq a1 a2 t149 x7_1 a0_0 a0_1 a0_2 x148003_1 = some r) ∧ Aside0 (kq ≤ k) ∧ Aside0 (Kd.R (Kd.int .i64) 3 w' w0.heap.size (fun k_ => (P0_3_ k_ ∨ w.heap.size ≤ k_)) (.slice (some ad148) l0_3.length co8) x148003_1) ∧ Aside0 (w'.heap[gb147]? = some (.cells #[.int .i64 a0_0, .int .i64 a0_1, .int .i64 a0_2, (.slice (some ad148) l0_3.length co8)] 27 (0, 0))) ∧ Aside0 (Kept w w' (fun k_ => P0_3_ k_)) ∧ Aside0 (Below w0.heap.size w0 w'))
   case atStart => exact ⟨(0), (l0_3), (sqD), H', ⟨Nat.le_refl _⟩, ⟨sqR HO0_3.out⟩, ⟨sqK BK147.out⟩, ⟨by repeat (first | (with_reducible first | exact HK.out | apply Kept.alloc | apply Kept.drewN | apply Kept.drew | refine Kept.setCell ?_ (.inr GW147.out) _) | exact HK.out)⟩, ⟨sqB⟩⟩
   case round =>
    clear H'
    try clear p1
    try clear q1
    try clear hx1
    try clear p2
    try clear c5
    try clear c5b0
    try clear c6
    try clear c6b0
    try clear p6
    try clear c7
    try clear hx148_0
    try clear p148
    try clear q148
    obtain ⟨x7_1, x148003_1, rfl, HA, HK1, HO_148003, BK147, HK, HB⟩ := hrel
    have hl148003_1 := (Kd.zC HO_148003.out).1
    rw [hl148003_1] at HO_148003
    (try simp only [hl148003_1])
    (try simp only [hl148003_1] at BK147)
    cases gk with
    | zero => exact absurd HA.out (by simp [zg.l0])
    | succ k1 =>
     have H := HA.out
     clear HA
     simp only [zg.l0] at H
     by_cases c11 : x7_1 < a0_2
     ·rw [if_pos c11] at H
      have c11b0 : decide (x7_1 < a0_2) = true := decide_eq_true c11
      clear c11
      obtain ⟨ji12, hji12⟩ : ∃ j_ : Int, (wrap64 ((wrap64 (a1 * a0_2)) + x7_1)) = j_ := ⟨_, rfl⟩
      replace H : (if 0 ≤ (ji12) then (if (ji12) < (x148003_1.length : Int) then (if a0_0 = 0 then (none) else (zg.l0 k1 a1 a2 t149 (wrap64 (x7_1 + 1)) a0_0 a0_1 a0_2 (x148003_1.set ((ji12) : Int).toNat (Int.tmod (wrap64 ((rd x148003_1 (ji12)) * t149)) a0_0)))) else (none)) else (none)) = some r := by first | (rw [hji12] at H; exact H) | (simp only [hji12] at H ⊢; exact H)
      have hji12w : (IntKind.i64.wrap ((wrap64 (a1 * a0_2)) + x7_1)) = ji12 := (zd _).trans hji12
      by_cases c13 : 0 ≤ (ji12)
      ·rw [if_pos c13] at H
       have c13b0 : decide (0 ≤ (ji12)) = true := decide_eq_true c13
       clear c13
       by_cases c14 : (ji12) < (x148003_1.length : Int)
       ·rw [if_pos c14] at H
        have c14b0 : decide ((ji12) < (x148003_1.length : Int)) = true := decide_eq_true c14
        (try simp only [hl148003_1] at c14b0)
        clear c14
        by_cases c15 : a0_0 = 0
        ·rw [if_pos c15] at H
         exact absurd H (by simp)
        ·rw [if_neg c15] at H
         have c15b0 : (a0_0 == 0) = false := beq_eq_false_iff_ne.mpr c15
         have c15b1 : (a0_0 != 0) = true := bne_iff_ne.mpr c15
         obtain ⟨y151, hy151⟩ : ∃ y_ : List Int, y_ = (x148003_1.set ((ji12) : Int).toNat (Int.tmod (wrap64 ((rd x148003_1 (ji12)) * t149)) a0_0)) := ⟨_, rfl⟩
         replace H : (zg.l0 k1 a1 a2 t149 (wrap64 (x7_1 + 1)) a0_0 a0_1 a0_2 y151) = some r := by first | (rw [hy151]; with_reducible exact H) | (have H2_ := (Option.bind_some _ _).symm.trans H; rw [hy151]; with_reducible exact H2_) | (have H2_ := (Option.bind_some _ _).symm.trans H; with_reducible exact H2_) | with_reducible exact H | (rw [hy151]; exact H) | exact H
         have Ny151 := Aside0.mk hy151
         clear hy151
         have H' := Aside0.mk H
         clear H
         have hcz17_0 : wr.cell? ⟨gb147, 0, none⟩ = some (.int .i64 a0_0) := (zb BK147.out 0).trans rfl
         have hcz17_1 : wr.cell? ⟨gb147, 1, none⟩ = some (.int .i64 a0_1) := (zb BK147.out 1).trans rfl
         have hcz17_2 : wr.cell? ⟨gb147, 2, none⟩ = some (.int .i64 a0_2) := (zb BK147.out 2).trans rfl
         have hcz17_3 : wr.cell? ⟨gb147, 3, none⟩ = some (.slice (some ad148) x148003_1.length co8) := (zb BK147.out 3).trans rfl
         have hfz17_0 := za BK147.out 0; have hfz17_1 := za BK147.out 1; have hfz17_2 := za BK147.out 2; have hfz17_3 := za BK147.out 3
         try go_wp2
         have n0_ := Aside0.mk (Kd.jt HO_148003.out)
         have n1_ := Aside0.mk (qn BK147.out)
         have n2_ := Aside0.mk (Kept.drew HK.out)
         have n3_ := Aside0.mk (zL HB.out)
         clear HO_148003 BK147 HK HB; have HO_148003 := n0_; have BK147 := n1_; have HK := n2_; have HB := n3_; clear n0_ n1_ n2_ n3_
         have p150 : 0 ≤ ((ji12) : Int) := of_decide_eq_true sqA
         have q150 : (ji12) < (x148003_1.length : Int) := of_decide_eq_true sqA
         obtain ⟨ad150, e150, hx150_0⟩ := Kd.qd (Kd.zC HO_148003.out).2.2 (ji12) p150 q150
         obtain rfl : ad148 = ad150 := (by injection e150)
         replace p150 := eq_true p150
         replace q150 := eq_true q150
         have p16 : 0 ≤ ((ji12) : Int) := of_decide_eq_true sqA
         have q16 : ((ji12) : Int) < ((x148003_1.length : Int) : Int) := of_decide_eq_true sqA
         obtain ⟨go16, co16, eo16, gb16, gl16, cl16, HG16⟩ := Kd.vu HO_148003.out (by omega)
         (first | cases eo16 | (injection eo16 with ea_ en_ ec_; (first | subst ea_ | (injection ea_ with ea_; subst ea_)); subst ec_; clear en_))
         (try simp only [add_plain] at *)
         have GB16 := Aside0.mk gb16
         have GG16 := Aside0.mk HG16
         clear gb16 gl16 HG16
         have HMgo16 := Aside0.mk (show (P0_3_ go16 ∨ w.heap.size ≤ go16) from (HO_148003.out.1 _ rfl))
         (first | simp only [add_plain] at hx148_0 | skip)
         (first | simp only [add_plain] at hx150_0 | skip)
         obtain ⟨hx16_0, hf16_0⟩ := Kd.jk 0 HO_148003.out ((ji12) : Int) p16 q16
         replace p16 := eq_true p16
         replace q16 := eq_true q16
         have HP19 := Kd.Qg HO_148003.out ((ji12) : Int) (Int.tmod (wrap64 ((rd x148003_1 (ji12)) * t149)) a0_0)
         rw [← Ny151.out] at HP19
         have HQ19 := Aside0.mk HP19
         clear HP19
         refine jU (n := 25) (S := fun w' => w'.cell? ⟨gb147, 0, none⟩ = some (.int .i64 a0_0) ∧ w'.cell? ⟨gb147, 1, none⟩ = some (.int .i64 a0_1) ∧ w'.cell? ⟨gb147, 2, none⟩ = some (.int .i64 a0_2) ∧ w'.cell? ⟨gb147, 3, none⟩ = some (.slice (some ⟨go16, 0, none⟩) x148003_1.length co8) ∧ w'.cell? ⟨go16, ((ji12)).toNat, none⟩ = some (.int .i64 (rd x148003_1 (ji12)))) (ds := [24]) #[false, false, false, false, false, false, false, false, false, false, false, false, false, false, false, false, false, false, false, false, false, false, false, false, false] (by kernel_rfl) rfl rfl ⟨(zb BK147.out 0).trans rfl, (zb BK147.out 1).trans rfl, (zb BK147.out 2).trans rfl, (zb BK147.out 3).trans rfl, hx150_0⟩ (fun hHeld => ?_); refine qQ zg.Y4 zg.VP (fun HT_ HW_ => ?_)
         generalize wr.drew = w18 at HO_148003 BK147 HK HB GG16 HQ19 hf16_0 hx150_0 hx16_0 hHeld ⊢
         refine zo (i := 0) (N := some 30) (v := ?_) (a' := ?_) #[true, false, false, false, false, false, false, false, false, false, false, false, false, false, false, false, false, false, false, false, false, false, false, false, false] rfl rfl (zh HT_.out (by kernel_rfl)) (fun _ _ _ h => h) (Or.inl ⟨by rfl, ?_⟩) ?_ ?_
         rotate_left
         ·intro w'; go_simp; with_reducible rfl
         rotate_left
         ·simp only [Act.put, List.setIfInBounds_toArray, List.set_cons_zero, List.set_cons_succ, zd, zf]; rfl
         refine zo (i := 2) (N := some 32) (v := ?_) (a' := ?_) #[true, false, true, false, false, false, false, false, false, false, false, false, false, false, false, false, false, false, false, false, false, false, false, false, false] rfl rfl (zh HT_.out (by kernel_rfl)) (fun _ _ _ h => h) (Or.inl ⟨by rfl, ?_⟩) ?_ ?_
         rotate_left
         ·intro w'; go_simp; with_reducible rfl
         rotate_left
         ·simp only [Act.put, List.setIfInBounds_toArray, List.set_cons_zero, List.set_cons_succ, zd, zf]; rfl
         refine zo (i := 3) (N := some 33) (v := ?_) (a' := ?_) #[true, false, true, true, false, false, false, false, false, false, false, false, false, false, false, false, false, false, false, false, false, false, false, false, false] rfl rfl (zh HT_.out (by kernel_rfl)) (fun _ _ _ h => h) (Or.inl ⟨by rfl, ?_⟩) ?_ ?_
         rotate_left
         ·intro w'; go_simp; with_reducible rfl
         rotate_left
         ·simp only [Act.put, List.setIfInBounds_toArray, List.set_cons_zero, List.set_cons_succ, zd, zf]; rfl
         refine zo (i := 6) (N := some 36) (v := ?_) (a' := ?_) #[true, false, true, true, false, false, true, false, false, false, false, false, false, false, false, false, false, false, false, false, false, false, false, false, false] rfl rfl (zh HT_.out (by kernel_rfl)) (fun _ _ _ h => h) (Or.inl ⟨by rfl, ?_⟩) ?_ ?_
         rotate_left
         ·intro w'; go_simp; with_reducible rfl
         rotate_left
         ·simp only [Act.put, List.setIfInBounds_toArray, List.set_cons_zero, List.set_cons_succ, zd, zf]; rfl
         refine zo (i := 8) (N := some 38) (v := ?_) (a' := ?_) #[true, false, true, true, false, false, true, false, true, false, false, false, false, false, false, false, false, false, false, false, false, false, false, false, false] rfl rfl (zh HT_.out (by kernel_rfl)) (fun _ _ _ h => h) (Or.inl ⟨by rfl, ?_⟩) ?_ ?_
         rotate_left
         ·intro w'; go_simp; with_reducible rfl
         rotate_left
         ·simp only [Act.put, List.setIfInBounds_toArray, List.set_cons_zero, List.set_cons_succ, zd, zf]; rfl
         refine zo (i := 10) (N := some 40) (v := ?_) (a' := ?_) #[true, false, true, true, false, false, true, false, true, false, true, false, false, false, false, false, false, false, false, false, false, false, false, false, false] rfl rfl (zh HT_.out (by kernel_rfl)) (fun _ _ _ h => h) (Or.inl ⟨by rfl, ?_⟩) ?_ ?_
         rotate_left
         ·intro w'; go_simp; with_reducible rfl
         rotate_left
         ·simp only [Act.put, List.setIfInBounds_toArray, List.set_cons_zero, List.set_cons_succ, zd, zf]; rfl
         refine zo (i := 11) (N := some 41) (v := ?_) (a' := ?_) #[true, false, true, true, false, false, true, false, true, false, true, true, false, false, false, false, false, false, false, false, false, false, false, false, false] rfl rfl (zh HT_.out (by kernel_rfl)) (fun _ _ _ h => h) (Or.inl ⟨by rfl, ?_⟩) ?_ ?_
         rotate_left
         ·intro w'; go_simp; with_reducible rfl
         rotate_left
         ·simp only [Act.put, List.setIfInBounds_toArray, List.set_cons_zero, List.set_cons_succ, zd, zf]; rfl
         refine zo (i := 14) (N := some 44) (v := ?_) (a' := ?_) #[true, false, true, true, false, false, true, false, true, false, true, true, false, false, true, false, false, false, false, false, false, false, false, false, false] rfl rfl (zh HT_.out (by kernel_rfl)) (fun _ _ _ h => h) (Or.inl ⟨by rfl, ?_⟩) ?_ ?_
         rotate_left
         ·intro w'; go_simp; with_reducible rfl
         rotate_left
         ·simp only [Act.put, List.setIfInBounds_toArray, List.set_cons_zero, List.set_cons_succ, zd, zf]; rfl
         refine zo (i := 18) (N := some 48) (v := ?_) (a' := ?_) #[true, false, true, true, false, false, true, false, true, false, true, true, false, false, true, false, false, false, true, false, false, false, false, false, false] rfl rfl (zh HT_.out (by kernel_rfl)) (fun _ _ _ h => h) (Or.inl ⟨by rfl, ?_⟩) ?_ ?_
         rotate_left
         ·intro w'; go_simp; with_reducible rfl
         rotate_left
         ·simp only [Act.put, List.setIfInBounds_toArray, List.set_cons_zero, List.set_cons_succ, zd, zf]; rfl
         refine zo (i := 20) (N := some 50) (v := ?_) (a' := ?_) #[true, false, true, true, false, false, true, false, true, false, true, true, false, false, true, false, false, false, true, false, true, false, false, false, false] rfl rfl (zh HT_.out (by kernel_rfl)) (fun _ _ _ h => h) (Or.inl ⟨by rfl, ?_⟩) ?_ ?_
         rotate_left
         ·intro w'; go_simp; with_reducible rfl
         rotate_left
         ·simp only [Act.put, List.setIfInBounds_toArray, List.set_cons_zero, List.set_cons_succ, zd, zf]; rfl
         refine qa (i := 1) (N := some 31) (v := ?_) (a' := ?_) #[true, true, true, true, false, false, true, false, true, false, true, true, false, false, true, false, false, false, true, false, true, false, false, false, false] rfl rfl (zA HT_.out HW_.out (by kernel_rfl)) (fun _ _ _ h => h) (Or.inl ⟨by rfl, ?_⟩) hHeld ?_ ?_
         rotate_left
         ·rintro w' ⟨s0, s1, s2, s3, s4⟩; go_simp; with_reducible rfl
         rotate_left
         ·simp only [Act.put, List.setIfInBounds_toArray, List.set_cons_zero, List.set_cons_succ, zd, zf]; rfl
         refine qa (i := 4) (N := some 34) (v := ?_) (a' := ?_) #[true, true, true, true, true, false, true, false, true, false, true, true, false, false, true, false, false, false, true, false, true, false, false, false, false] rfl rfl (zA HT_.out HW_.out (by kernel_rfl)) (fun _ _ _ h => h) (Or.inl ⟨by rfl, ?_⟩) hHeld ?_ ?_
         rotate_left
         ·rintro w' ⟨s0, s1, s2, s3, s4⟩; go_simp; with_reducible rfl
         rotate_left
         ·simp only [Act.put, List.setIfInBounds_toArray, List.set_cons_zero, List.set_cons_succ, zd, zf]; rfl
         refine zo (i := 5) (N := some 35) (v := ?_) (a' := ?_) #[true, true, true, true, true, true, true, false, true, false, true, true, false, false, true, false, false, false, true, false, true, false, false, false, false] rfl rfl (zh HT_.out (by kernel_rfl)) (fun _ _ _ h => h) (Or.inl ⟨by rfl, ?_⟩) ?_ ?_
         rotate_left
         ·intro w'; go_simp; with_reducible rfl
         rotate_left
         ·simp only [Act.put, List.setIfInBounds_toArray, List.set_cons_zero, List.set_cons_succ, zd, zf]; rfl
         refine zo (i := 7) (N := some 37) (v := ?_) (a' := ?_) #[true, true, true, true, true, true, true, true, true, false, true, true, false, false, true, false, false, false, true, false, true, false, false, false, false] rfl rfl (zh HT_.out (by kernel_rfl)) (fun _ _ _ h => h) (Or.inl ⟨by rfl, ?_⟩) ?_ ?_
         rotate_left
         ·intro w'; go_simp; with_reducible rfl
         rotate_left
         ·simp only [Act.put, List.setIfInBounds_toArray, List.set_cons_zero, List.set_cons_succ, zd, zf]; rfl
         refine qa (i := 9) (N := some 39) (v := ?_) (a' := ?_) #[true, true, true, true, true, true, true, true, true, true, true, true, false, false, true, false, false, false, true, false, true, false, false, false, false] rfl rfl (zA HT_.out HW_.out (by kernel_rfl)) (fun _ _ _ h => h) (Or.inl ⟨by rfl, ?_⟩) hHeld ?_ ?_
         rotate_left
         ·rintro w' ⟨s0, s1, s2, s3, s4⟩; go_simp; with_reducible rfl
         rotate_left
         ·simp only [Act.put, List.setIfInBounds_toArray, List.set_cons_zero, List.set_cons_succ, zd, zf]; rfl
         refine qa (i := 12) (N := some 42) (v := ?_) (a' := ?_) #[true, true, true, true, true, true, true, true, true, true, true, true, true, false, true, false, false, false, true, false, true, false, false, false, false] rfl rfl (zA HT_.out HW_.out (by kernel_rfl)) (fun _ _ _ h => h) (Or.inl ⟨by rfl, ?_⟩) hHeld ?_ ?_
         rotate_left
         ·rintro w' ⟨s0, s1, s2, s3, s4⟩; go_simp; with_reducible rfl
         rotate_left
         ·simp only [Act.put, List.setIfInBounds_toArray, List.set_cons_zero, List.set_cons_succ, zd, zf]; rfl
         refine zo (i := 13) (N := some 43) (v := ?_) (a' := ?_) #[true, true, true, true, true, true, true, true, true, true, true, true, true, true, true, false, false, false, true, false, true, false, false, false, false] rfl rfl (zh HT_.out (by kernel_rfl)) (fun _ _ _ h => h) (Or.inl ⟨by rfl, ?_⟩) ?_ ?_
         rotate_left
         ·intro w'; go_simp; with_reducible rfl
         rotate_left
         ·simp only [Act.put, List.setIfInBounds_toArray, List.set_cons_zero, List.set_cons_succ, zd, zf]; rfl
         refine zo (i := 15) (N := some 45) (v := ?_) (a' := ?_) #[true, true, true, true, true, true, true, true, true, true, true, true, true, true, true, true, false, false, true, false, true, false, false, false, false] rfl rfl (zh HT_.out (by kernel_rfl)) (fun _ _ _ h => h) (Or.inl ⟨by rfl, ?_⟩) ?_ ?_
         rotate_left
         ·intro w'; go_simp; with_reducible rfl
         rotate_left
         ·simp only [Act.put, List.setIfInBounds_toArray, List.set_cons_zero, List.set_cons_succ, zd, zf]; rfl
         refine zo (i := 16) (N := some 46) (v := ?_) (a' := ?_) #[true, true, true, true, true, true, true, true, true, true, true, true, true, true, true, true, true, false, true, false, true, false, false, false, false] rfl rfl (zh HT_.out (by kernel_rfl)) (fun _ _ _ h => h) (Or.inl ⟨by rfl, ?_⟩) ?_ ?_
         rotate_left
         ·intro w'; go_simp; with_reducible rfl
         rotate_left
         ·simp only [Act.put, List.setIfInBounds_toArray, List.set_cons_zero, List.set_cons_succ, zd, zf]; rfl
         refine qa (i := 17) (N := some 47) (v := ?_) (a' := ?_) #[true, true, true, true, true, true, true, true, true, true, true, true, true, true, true, true, true, true, true, false, true, false, false, false, false] rfl rfl (zA HT_.out HW_.out (by kernel_rfl)) (fun _ _ _ h => h) (Or.inl ⟨by rfl, ?_⟩) hHeld ?_ ?_
         rotate_left
         ·rintro w' ⟨s0, s1, s2, s3, s4⟩; go_simp; with_reducible rfl
         rotate_left
         ·simp only [Act.put, List.setIfInBounds_toArray, List.set_cons_zero, List.set_cons_succ, zd, zf]; rfl
         refine zo (i := 19) (N := some 49) (v := ?_) (a' := ?_) #[true, true, true, true, true, true, true, true, true, true, true, true, true, true, true, true, true, true, true, true, true, false, false, false, false] rfl rfl (zh HT_.out (by kernel_rfl)) (fun _ _ _ h => h) (Or.inl ⟨by rfl, ?_⟩) ?_ ?_
         rotate_left
         ·intro w'; go_simp; with_reducible rfl
         rotate_left
         ·simp only [Act.put, List.setIfInBounds_toArray, List.set_cons_zero, List.set_cons_succ, zd, zf]; rfl
         refine qa (i := 21) (N := some 51) (v := ?_) (a' := ?_) #[true, true, true, true, true, true, true, true, true, true, true, true, true, true, true, true, true, true, true, true, true, true, false, false, false] rfl rfl (zA HT_.out HW_.out (by kernel_rfl)) (fun _ _ _ h => h) (Or.inl ⟨by rfl, ?_⟩) hHeld ?_ ?_
         rotate_left
         ·rintro w' ⟨s0, s1, s2, s3, s4⟩; go_simp; with_reducible rfl
         rotate_left
         ·simp only [Act.put, List.setIfInBounds_toArray, List.set_cons_zero, List.set_cons_succ, zd, zf]; rfl
         refine zo (i := 22) (N := some 52) (v := ?_) (a' := ?_) #[true, true, true, true, true, true, true, true, true, true, true, true, true, true, true, true, true, true, true, true, true, true, true, false, false] rfl rfl (zh HT_.out (by kernel_rfl)) (fun _ _ _ h => h) (Or.inl ⟨by rfl, ?_⟩) ?_ ?_
         rotate_left
         ·intro w'; go_simp; with_reducible rfl
         rotate_left
         ·simp only [Act.put, List.setIfInBounds_toArray, List.set_cons_zero, List.set_cons_succ, zd, zf]; rfl
         refine zo (i := 23) (N := some 53) (v := ?_) (a' := ?_) #[true, true, true, true, true, true, true, true, true, true, true, true, true, true, true, true, true, true, true, true, true, true, true, true, false] rfl rfl (zh HT_.out (by kernel_rfl)) (fun _ _ _ h => h) (Or.inl ⟨by rfl, ?_⟩) ?_ ?_
         rotate_left
         ·intro w'; go_simp; with_reducible rfl
         rotate_left
         ·simp only [Act.put, List.setIfInBounds_toArray, List.set_cons_zero, List.set_cons_succ, zd, zf]; rfl
         refine yT (i := 24) (N := none) #[true, true, true, true, true, true, true, true, true, true, true, true, true, true, true, true, true, true, true, true, true, true, true, true, true] rfl rfl (ji HT_.out (by kernel_rfl)) (by decide) (fun K hK => ?_)
         refine yi (w1 := ?_) (by rfl) rfl ?_ ?_
         rotate_left
         ·go_simp
          rfl
         refine hK.out _ _ ?_
         clear hK K
         refine vM (jE HT_.out (by kernel_rfl)) ?_
         try go_wp2
         (try simp only [← hl148003_1])
         go_roundg k1
         case measure => have := HK1.out; omega
         case rel => exact ⟨(wrap64 (x7_1 + 1)), (y151), (sqD), H', ⟨by have := HK1.out; omega⟩, ⟨by (try simp only [hl148003_1]); refine sqR ?_; exact HQ19.out⟩, ⟨by (try simp only [hl148003_1]); refine sqK ?_; refine zB ?_ (by have h_ := Kd.jr HO_148003.out BK147.out (by decide); intro e_; exact h_ (by rw [e_]; rfl)) _; refine sqK ?_; exact BK147.out⟩, ⟨by repeat (first | (with_reducible first | exact HK.out | apply Kept.alloc | apply Kept.drewN | apply Kept.drew | refine Kept.setCell ?_ HMgo16.out _ | refine Kept.setCell ?_ (.inr GW147.out) _) | exact HK.out)⟩, ⟨by repeat (first | (with_reducible first | exact HB.out | apply zZ | apply zW | apply zL | refine zM ?_ GB16.out | refine zM ?_ GE147.out) | exact HB.out)⟩⟩
       ·rw [if_neg c14] at H
        exact absurd H (by simp)
      ·rw [if_neg c13] at H
       exact absurd H (by simp)
     ·rw [if_neg c11] at H
      have c11b0 : decide (x7_1 < a0_2) = false := decide_eq_false c11
      clear c11
      have H' := Aside0.mk H
      clear H
      have hcz20_0 : wr.cell? ⟨gb147, 0, none⟩ = some (.int .i64 a0_0) := (zb BK147.out 0).trans rfl
      have hcz20_1 : wr.cell? ⟨gb147, 1, none⟩ = some (.int .i64 a0_1) := (zb BK147.out 1).trans rfl
      have hcz20_2 : wr.cell? ⟨gb147, 2, none⟩ = some (.int .i64 a0_2) := (zb BK147.out 2).trans rfl
      have hcz20_3 : wr.cell? ⟨gb147, 3, none⟩ = some (.slice (some ad148) x148003_1.length co8) := (zb BK147.out 3).trans rfl
      have hfz20_0 := za BK147.out 0; have hfz20_1 := za BK147.out 1; have hfz20_2 := za BK147.out 2; have hfz20_3 := za BK147.out 3
      go_wp2
      go_loopg [8] k1 (fun kq v8 w' => ∃ (x8_2 : Int) (x148003_2 : List Int), v8 = .int .i64 x8_2 ∧ Aside0 (zg.l1 kq a1 a2 x8_2 a0_0 a0_1 a0_2 x148003_2 = some r) ∧ Aside0 (kq ≤ k1) ∧ Aside0 (Kd.R (Kd.int .i64) 3 w' w0.heap.size (fun k_ => (P0_3_ k_ ∨ w.heap.size ≤ k_)) (.slice (some ad148) x148003_1.length co8) x148003_2) ∧ Aside0 (w'.heap[gb147]? = some (.cells #[.int .i64 a0_0, .int .i64 a0_1, .int .i64 a0_2, (.slice (some ad148) x148003_1.length co8)] 27 (0, 0))) ∧ Aside0 (Kept w w' (fun k_ => P0_3_ k_)) ∧ Aside0 (Below w0.heap.size w0 w'))
      case atStart => exact ⟨(0), (x148003_1), (sqD), H', ⟨Nat.le_refl _⟩, ⟨by (try simp only [hl148003_1]); refine sqR ?_; exact HO_148003.out⟩, ⟨by (try simp only [hl148003_1]); refine sqK ?_; exact BK147.out⟩, ⟨by repeat (first | (with_reducible first | exact HK.out | apply Kept.alloc | apply Kept.drewN | apply Kept.drew | refine Kept.setCell ?_ (.inr GW147.out) _) | exact HK.out)⟩, ⟨sqB⟩⟩
      case round =>
       clear H'
       try clear c1
       try clear p1
       try clear q1
       try clear hx1
       try clear p2
       try clear c5
       try clear c5b0
       try clear c6
       try clear c6b0
       try clear p6
       try clear c7
       try clear c11
       try clear c11b0
       try clear c13
       try clear c13b0
       try clear c14
       try clear c14b0
       try clear p14
       try clear q14
       try clear hx14
       try clear c15
       try clear c15b0
       try clear c15b1
       try clear p15
       try clear q15
       try clear hx15
       try clear p16
       try clear q16
       try clear hx16
       try clear hf16
       try clear hcz17_0
       try clear hcz17_1
       try clear hcz17_2
       try clear hcz17_3
       try clear hcz20_0
       try clear hcz20_1
       try clear hcz20_2
       try clear hcz20_3
       try clear hfz17_0
       try clear hfz17_1
       try clear hfz17_2
       try clear hfz17_3
       try clear hfz20_0
       try clear hfz20_1
       try clear hfz20_2
       try clear hfz20_3
       try clear hx148_0
       try clear hx150_0
       try clear hx16_0
       try clear p1
       try clear p148
       try clear p150
       try clear p16
       try clear p2
       try clear p6
       try clear q1
       try clear q148
       try clear q150
       try clear q16
       obtain ⟨x8_2, x148003_2, rfl, HA, HK2, HO_148003, BK147, HK, HB⟩ := hrel
       have hl148003_2 := (Kd.zC HO_148003.out).1
       rw [hl148003_2] at HO_148003
       (try simp only [hl148003_2])
       (try simp only [hl148003_2] at BK147)
       cases gk with
       | zero => exact absurd HA.out (by simp [zg.l1])
       | succ k2 =>
        have H := HA.out
        clear HA
        simp only [zg.l1] at H
        by_cases c21 : x8_2 < a0_1
        ·rw [if_pos c21] at H
         have c21b0 : decide (x8_2 < a0_1) = true := decide_eq_true c21
         clear c21
         obtain ⟨ji22, hji22⟩ : ∃ j_ : Int, (wrap64 ((wrap64 (x8_2 * a0_2)) + a2)) = j_ := ⟨_, rfl⟩
         replace H : (if 0 ≤ (ji22) then (if (ji22) < (x148003_2.length : Int) then (zg.l2 k2 a1 a2 x8_2 (rd x148003_2 (ji22)) 0 a0_0 a0_1 a0_2 x148003_2) else (none)) else (none)) = some r := by first | (rw [hji22] at H; exact H) | (simp only [hji22] at H ⊢; exact H)
         have hji22w : (IntKind.i64.wrap ((wrap64 (x8_2 * a0_2)) + a2)) = ji22 := (zd _).trans hji22
         by_cases c23 : 0 ≤ (ji22)
         ·rw [if_pos c23] at H
          have c23b0 : decide (0 ≤ (ji22)) = true := decide_eq_true c23
          clear c23
          by_cases c24 : (ji22) < (x148003_2.length : Int)
          ·rw [if_pos c24] at H
           have c24b0 : decide ((ji22) < (x148003_2.length : Int)) = true := decide_eq_true c24
           (try simp only [hl148003_1, hl148003_2] at c24b0)
           clear c24
           have H' := Aside0.mk H
           clear H
           have hcz25_0 : wr.cell? ⟨gb147, 0, none⟩ = some (.int .i64 a0_0) := (zb BK147.out 0).trans rfl
           have hcz25_1 : wr.cell? ⟨gb147, 1, none⟩ = some (.int .i64 a0_1) := (zb BK147.out 1).trans rfl
           have hcz25_2 : wr.cell? ⟨gb147, 2, none⟩ = some (.int .i64 a0_2) := (zb BK147.out 2).trans rfl
           have hcz25_3 : wr.cell? ⟨gb147, 3, none⟩ = some (.slice (some ad148) x148003_2.length co8) := (zb BK147.out 3).trans rfl
           have hfz25_0 := za BK147.out 0; have hfz25_1 := za BK147.out 1; have hfz25_2 := za BK147.out 2; have hfz25_3 := za BK147.out 3
           have p152 : 0 ≤ ((ji22) : Int) := of_decide_eq_true sqA
           have q152 : (ji22) < (x148003_2.length : Int) := of_decide_eq_true sqA
           obtain ⟨ad152, e152, hx152_0⟩ := Kd.qd (Kd.zC HO_148003.out).2.2 (ji22) p152 q152
           obtain rfl : ad148 = ad152 := (by injection e152)
           replace p152 := eq_true p152
           replace q152 := eq_true q152
           go_wp2
           go_loopg [10] k2 (fun kq v10 w' => ∃ (x10_3 : Int) (x148003_3 : List Int), v10 = .int .i64 x10_3 ∧ Aside0 (zg.l2 kq a1 a2 x8_2 (rd x148003_2 (ji22)) x10_3 a0_0 a0_1 a0_2 x148003_3 = some r) ∧ Aside0 (kq ≤ k2) ∧ Aside0 (Kd.R (Kd.int .i64) 3 w' w0.heap.size (fun k_ => (P0_3_ k_ ∨ w.heap.size ≤ k_)) (.slice (some ad148) x148003_2.length co8) x148003_3) ∧ Aside0 (w'.heap[gb147]? = some (.cells #[.int .i64 a0_0, .int .i64 a0_1, .int .i64 a0_2, (.slice (some ad148) x148003_2.length co8)] 27 (0, 0))) ∧ Aside0 (Kept w w' (fun k_ => P0_3_ k_)) ∧ Aside0 (Below w0.heap.size w0 w'))
           case atStart => exact ⟨(0), (x148003_2), (sqD), H', ⟨Nat.le_refl _⟩, ⟨by (try simp only [hl148003_1]); (try simp only [hl148003_2]); refine sqR ?_; exact HO_148003.out⟩, ⟨by (try simp only [hl148003_1]); (try simp only [hl148003_2]); refine sqK ?_; exact BK147.out⟩, ⟨by repeat (first | (with_reducible first | exact HK.out | apply Kept.alloc | apply Kept.drewN | apply Kept.drew | refine Kept.setCell ?_ (.inr GW147.out) _) | exact HK.out)⟩, ⟨sqB⟩⟩
           case round =>
            clear H'
            try clear c1
            try clear p1
            try clear q1
            try clear hx1
            try clear c2
            try clear p2
            try clear c5
            try clear c5b0
            try clear c6
            try clear c6b0
            try clear p6
            try clear c7
            try clear c11
            try clear c11b0
            try clear c13
            try clear c13b0
            try clear c14
            try clear c14b0
            try clear p14
            try clear q14
            try clear hx14
            try clear c15
            try clear c15b0
            try clear c15b1
            try clear p15
            try clear q15
            try clear hx15
            try clear p16
            try clear q16
            try clear hx16
            try clear hf16
            try clear c21
            try clear c21b0
            try clear c23
            try clear c23b0
            try clear c24
            try clear c24b0
            try clear hcz17_0
            try clear hcz17_1
            try clear hcz17_2
            try clear hcz17_3
            try clear hcz20_0
            try clear hcz20_1
            try clear hcz20_2
            try clear hcz20_3
            try clear hcz25_0
            try clear hcz25_1
            try clear hcz25_2
            try clear hcz25_3
            try clear hfz17_0
            try clear hfz17_1
            try clear hfz17_2
            try clear hfz17_3
            try clear hfz20_0
            try clear hfz20_1
            try clear hfz20_2
            try clear hfz20_3
            try clear hfz25_0
            try clear hfz25_1
            try clear hfz25_2
            try clear hfz25_3
            try clear hx148_0
            try clear hx150_0
            try clear hx152_0
            try clear hx16_0
            try clear p1
            try clear p14
            try clear p148
            try clear p15
            try clear p150
            try clear p152
            try clear p16
            try clear p2
            try clear p6
            try clear q1
            try clear q14
            try clear q148
            try clear q15
            try clear q150
            try clear q152
            try clear q16
            obtain ⟨x10_3, x148003_3, rfl, HA, HK3, HO_148003, BK147, HK, HB⟩ := hrel
            have hl148003_3 := (Kd.zC HO_148003.out).1
            rw [hl148003_3] at HO_148003
            (try simp only [hl148003_3])
            (try simp only [hl148003_3] at BK147)
            cases gk with
            | zero => exact absurd HA.out (by simp [zg.l2])
            | succ k3 =>
             have H := HA.out
             clear HA
             simp only [zg.l2] at H
             by_cases c26 : x10_3 < a0_2
             ·rw [if_pos c26] at H
              have c26b0 : decide (x10_3 < a0_2) = true := decide_eq_true c26
              clear c26
              by_cases c27 : x8_2 = a1
              ·rw [if_pos c27] at H
               have c27b0 : (x8_2 == a1) = true := beq_iff_eq.mpr c27
               have c27b1 : (x8_2 != a1) = false := bne_eq_false_iff_eq.mpr c27
               clear c27
               have H' := Aside0.mk H
               clear H
               have hcz28_0 : wr.cell? ⟨gb147, 0, none⟩ = some (.int .i64 a0_0) := (zb BK147.out 0).trans rfl
               have hcz28_1 : wr.cell? ⟨gb147, 1, none⟩ = some (.int .i64 a0_1) := (zb BK147.out 1).trans rfl
               have hcz28_2 : wr.cell? ⟨gb147, 2, none⟩ = some (.int .i64 a0_2) := (zb BK147.out 2).trans rfl
               have hcz28_3 : wr.cell? ⟨gb147, 3, none⟩ = some (.slice (some ad148) x148003_3.length co8) := (zb BK147.out 3).trans rfl
               have hfz28_0 := za BK147.out 0; have hfz28_1 := za BK147.out 1; have hfz28_2 := za BK147.out 2; have hfz28_3 := za BK147.out 3
               go_wp2
               (try simp only [← hl148003_2, ← hl148003_3])
               go_roundg k3
               case measure => have := HK1.out; have := HK2.out; have := HK3.out; omega
               case rel => exact ⟨(wrap64 (x8_2 + 1)), (x148003_3), (sqD), H', ⟨by have := HK1.out; have := HK2.out; have := HK3.out; omega⟩, ⟨by (try simp only [hl148003_1]); (try simp only [hl148003_2]); (try simp only [hl148003_3]); refine sqR ?_; exact HO_148003.out⟩, ⟨by (try simp only [hl148003_1]); (try simp only [hl148003_2]); (try simp only [hl148003_3]); refine sqK ?_; exact BK147.out⟩, ⟨by repeat (first | (with_reducible first | exact HK.out | apply Kept.alloc | apply Kept.drewN | apply Kept.drew | refine Kept.setCell ?_ (.inr GW147.out) _) | exact HK.out)⟩, ⟨sqB⟩⟩
              ·rw [if_neg c27] at H
               have c27b0 : (x8_2 == a1) = false := beq_eq_false_iff_ne.mpr c27
               have c27b1 : (x8_2 != a1) = true := bne_iff_ne.mpr c27
               obtain ⟨ji29, hji29⟩ : ∃ j_ : Int, (wrap64 ((wrap64 (x8_2 * a0_2)) + x10_3)) = j_ := ⟨_, rfl⟩
               replace H : (if 0 ≤ (ji29) then (if (ji29) < (x148003_3.length : Int) then (if 0 ≤ (wrap64 ((wrap64 (a1 * a0_2)) + x10_3)) then (if (wrap64 ((wrap64 (a1 * a0_2)) + x10_3)) < (x148003_3.length : Int) then (if a0_0 = 0 then (none) else (zg.l2 k3 a1 a2 x8_2 (rd x148003_2 (ji22)) (wrap64 (x10_3 + 1)) a0_0 a0_1 a0_2 (x148003_3.set ((ji29) : Int).toNat (Int.tmod (wrap64 ((rd x148003_3 (ji29)) + (wrap64 ((wrap64 (a0_0 - (rd x148003_2 (ji22)))) * (rd x148003_3 (wrap64 ((wrap64 (a1 * a0_2)) + x10_3))))))) a0_0)))) else (none)) else (none)) else (none)) else (none)) = some r := by first | (rw [hji29] at H; exact H) | (simp only [hji29] at H ⊢; exact H)
               have hji29w : (IntKind.i64.wrap ((wrap64 (x8_2 * a0_2)) + x10_3)) = ji29 := (zd _).trans hji29
               by_cases c30 : 0 ≤ (ji29)
               ·rw [if_pos c30] at H
                have c30b0 : decide (0 ≤ (ji29)) = true := decide_eq_true c30
                clear c30
                by_cases c31 : (ji29) < (x148003_3.length : Int)
                ·rw [if_pos c31] at H
                 have c31b0 : decide ((ji29) < (x148003_3.length : Int)) = true := decide_eq_true c31
                 (try simp only [hl148003_1, hl148003_2, hl148003_3] at c31b0)
                 clear c31
                 obtain ⟨ji32, hji32⟩ : ∃ j_ : Int, (wrap64 ((wrap64 (a1 * a0_2)) + x10_3)) = j_ := ⟨_, rfl⟩
                 replace H : (if 0 ≤ (ji32) then (if (ji32) < (x148003_3.length : Int) then (if a0_0 = 0 then (none) else (zg.l2 k3 a1 a2 x8_2 (rd x148003_2 (ji22)) (wrap64 (x10_3 + 1)) a0_0 a0_1 a0_2 (x148003_3.set ((ji29) : Int).toNat (Int.tmod (wrap64 ((rd x148003_3 (ji29)) + (wrap64 ((wrap64 (a0_0 - (rd x148003_2 (ji22)))) * (rd x148003_3 (ji32)))))) a0_0)))) else (none)) else (none)) = some r := by first | (rw [hji32] at H; exact H) | (simp only [hji32] at H ⊢; exact H)
                 have hji32w : (IntKind.i64.wrap ((wrap64 (a1 * a0_2)) + x10_3)) = ji32 := (zd _).trans hji32
                 by_cases c33 : 0 ≤ (ji32)
                 ·rw [if_pos c33] at H
                  have c33b0 : decide (0 ≤ (ji32)) = true := decide_eq_true c33
                  clear c33
                  by_cases c34 : (ji32) < (x148003_3.length : Int)
                  ·rw [if_pos c34] at H
                   have c34b0 : decide ((ji32) < (x148003_3.length : Int)) = true := decide_eq_true c34
                   (try simp only [hl148003_1, hl148003_2, hl148003_3] at c34b0)
                   clear c34
                   by_cases c35 : a0_0 = 0
                   ·rw [if_pos c35] at H
                    exact absurd H (by simp)
                   ·rw [if_neg c35] at H
                    have c35b0 : (a0_0 == 0) = false := beq_eq_false_iff_ne.mpr c35
                    have c35b1 : (a0_0 != 0) = true := bne_iff_ne.mpr c35
                    obtain ⟨y155, hy155⟩ : ∃ y_ : List Int, y_ = (x148003_3.set ((ji29) : Int).toNat (Int.tmod (wrap64 ((rd x148003_3 (ji29)) + (wrap64 ((wrap64 (a0_0 - (rd x148003_2 (ji22)))) * (rd x148003_3 (ji32)))))) a0_0)) := ⟨_, rfl⟩
                    replace H : (zg.l2 k3 a1 a2 x8_2 (rd x148003_2 (ji22)) (wrap64 (x10_3 + 1)) a0_0 a0_1 a0_2 y155) = some r := by first | (rw [hy155]; with_reducible exact H) | (have H2_ := (Option.bind_some _ _).symm.trans H; rw [hy155]; with_reducible exact H2_) | (have H2_ := (Option.bind_some _ _).symm.trans H; with_reducible exact H2_) | with_reducible exact H | (rw [hy155]; exact H) | exact H
                    have Ny155 := Aside0.mk hy155
                    clear hy155
                    have H' := Aside0.mk H
                    clear H
                    have hcz37_0 : wr.cell? ⟨gb147, 0, none⟩ = some (.int .i64 a0_0) := (zb BK147.out 0).trans rfl
                    have hcz37_1 : wr.cell? ⟨gb147, 1, none⟩ = some (.int .i64 a0_1) := (zb BK147.out 1).trans rfl
                    have hcz37_2 : wr.cell? ⟨gb147, 2, none⟩ = some (.int .i64 a0_2) := (zb BK147.out 2).trans rfl
                    have hcz37_3 : wr.cell? ⟨gb147, 3, none⟩ = some (.slice (some ad148) x148003_3.length co8) := (zb BK147.out 3).trans rfl
                    have hfz37_0 := za BK147.out 0; have hfz37_1 := za BK147.out 1; have hfz37_2 := za BK147.out 2; have hfz37_3 := za BK147.out 3
                    try go_wp2
                    have n0_ := Aside0.mk (Kd.jt HO_148003.out)
                    have n1_ := Aside0.mk (qn BK147.out)
                    have n2_ := Aside0.mk (Kept.drew HK.out)
                    have n3_ := Aside0.mk (zL HB.out)
                    clear HO_148003 BK147 HK HB; have HO_148003 := n0_; have BK147 := n1_; have HK := n2_; have HB := n3_; clear n0_ n1_ n2_ n3_
                    have p153 : 0 ≤ ((ji29) : Int) := of_decide_eq_true sqA
                    have q153 : (ji29) < (x148003_3.length : Int) := of_decide_eq_true sqA
                    obtain ⟨ad153, e153, hx153_0⟩ := Kd.qd (Kd.zC HO_148003.out).2.2 (ji29) p153 q153
                    obtain rfl : ad148 = ad153 := (by injection e153)
                    replace p153 := eq_true p153
                    replace q153 := eq_true q153
                    have p154 : 0 ≤ ((ji32) : Int) := of_decide_eq_true sqA
                    have q154 : (ji32) < (x148003_3.length : Int) := of_decide_eq_true sqA
                    obtain ⟨ad154, e154, hx154_0⟩ := Kd.qd (Kd.zC HO_148003.out).2.2 (ji32) p154 q154
                    obtain rfl : ad148 = ad154 := (by injection e154)
                    replace p154 := eq_true p154
                    replace q154 := eq_true q154
                    have p36 : 0 ≤ ((ji29) : Int) := of_decide_eq_true sqA
                    have q36 : ((ji29) : Int) < ((x148003_3.length : Int) : Int) := of_decide_eq_true sqA
                    obtain ⟨go36, co36, eo36, gb36, gl36, cl36, HG36⟩ := Kd.vu HO_148003.out (by omega)
                    (first | cases eo36 | (injection eo36 with ea_ en_ ec_; (first | subst ea_ | (injection ea_ with ea_; subst ea_)); subst ec_; clear en_))
                    (try simp only [add_plain] at *)
                    have GB36 := Aside0.mk gb36
                    have GG36 := Aside0.mk HG36
                    clear gb36 gl36 HG36
                    have HMgo36 := Aside0.mk (show (P0_3_ go36 ∨ w.heap.size ≤ go36) from (HO_148003.out.1 _ rfl))
                    (first | simp only [add_plain] at hx152_0 | skip)
                    (first | simp only [add_plain] at hx153_0 | skip)
                    (first | simp only [add_plain] at hx154_0 | skip)
                    obtain ⟨hx36_0, hf36_0⟩ := Kd.jk 0 HO_148003.out ((ji29) : Int) p36 q36
                    replace p36 := eq_true p36
                    replace q36 := eq_true q36
                    have HP39 := Kd.Qg HO_148003.out ((ji29) : Int) (Int.tmod (wrap64 ((rd x148003_3 (ji29)) + (wrap64 ((wrap64 (a0_0 - (rd x148003_2 (ji22)))) * (rd x148003_3 (ji32)))))) a0_0)
                    rw [← Ny155.out] at HP39
                    have HQ39 := Aside0.mk HP39
                    clear HP39
                    refine jU (n := 39) (S := fun w' => w'.cell? ⟨gb147, 0, none⟩ = some (.int .i64 a0_0) ∧ w'.cell? ⟨gb147, 1, none⟩ = some (.int .i64 a0_1) ∧ w'.cell? ⟨gb147, 2, none⟩ = some (.int .i64 a0_2) ∧ w'.cell? ⟨gb147, 3, none⟩ = some (.slice (some ⟨go36, 0, none⟩) x148003_3.length co8) ∧ w'.cell? ⟨go36, ((ji29)).toNat, none⟩ = some (.int .i64 (rd x148003_3 (ji29))) ∧ w'.cell? ⟨go36, ((ji32)).toNat, none⟩ = some (.int .i64 (rd x148003_3 (ji32)))) (ds := [38]) #[false, false, false, false, false, false, false, false, false, false, false, false, false, false, false, false, false, false, false, false, false, false, false, false, false, false, false, false, false, false, false, false, false, false, false, false, false, false, false] (by kernel_rfl) rfl rfl ⟨(zb BK147.out 0).trans rfl, (zb BK147.out 1).trans rfl, (zb BK147.out 2).trans rfl, (zb BK147.out 3).trans rfl, hx153_0, hx154_0⟩ (fun hHeld => ?_); refine qQ zg.zad zg.Y0 (fun HT_ HW_ => ?_)
                    generalize wr.drew = w38 at HO_148003 BK147 HK HB GG36 HQ39 hf36_0 hx153_0 hx154_0 hx36_0 hHeld ⊢
                    refine zo (i := 0) (N := some 81) (v := ?_) (a' := ?_) #[true, false, false, false, false, false, false, false, false, false, false, false, false, false, false, false, false, false, false, false, false, false, false, false, false, false, false, false, false, false, false, false, false, false, false, false, false, false, false] rfl rfl (zh HT_.out (by kernel_rfl)) (fun _ _ _ h => h) (Or.inl ⟨by rfl, ?_⟩) ?_ ?_
                    rotate_left
                    ·intro w'; go_simp; with_reducible rfl
                    rotate_left
                    ·simp only [Act.put, List.setIfInBounds_toArray, List.set_cons_zero, List.set_cons_succ, zd, zf]; rfl
                    refine zo (i := 2) (N := some 83) (v := ?_) (a' := ?_) #[true, false, true, false, false, false, false, false, false, false, false, false, false, false, false, false, false, false, false, false, false, false, false, false, false, false, false, false, false, false, false, false, false, false, false, false, false, false, false] rfl rfl (zh HT_.out (by kernel_rfl)) (fun _ _ _ h => h) (Or.inl ⟨by rfl, ?_⟩) ?_ ?_
                    rotate_left
                    ·intro w'; go_simp; with_reducible rfl
                    rotate_left
                    ·simp only [Act.put, List.setIfInBounds_toArray, List.set_cons_zero, List.set_cons_succ, zd, zf]; rfl
                    refine zo (i := 3) (N := some 84) (v := ?_) (a' := ?_) #[true, false, true, true, false, false, false, false, false, false, false, false, false, false, false, false, false, false, false, false, false, false, false, false, false, false, false, false, false, false, false, false, false, false, false, false, false, false, false] rfl rfl (zh HT_.out (by kernel_rfl)) (fun _ _ _ h => h) (Or.inl ⟨by rfl, ?_⟩) ?_ ?_
                    rotate_left
                    ·intro w'; go_simp; with_reducible rfl
                    rotate_left
                    ·simp only [Act.put, List.setIfInBounds_toArray, List.set_cons_zero, List.set_cons_succ, zd, zf]; rfl
                    refine zo (i := 6) (N := some 87) (v := ?_) (a' := ?_) #[true, false, true, true, false, false, true, false, false, false, false, false, false, false, false, false, false, false, false, false, false, false, false, false, false, false, false, false, false, false, false, false, false, false, false, false, false, false, false] rfl rfl (zh HT_.out (by kernel_rfl)) (fun _ _ _ h => h) (Or.inl ⟨by rfl, ?_⟩) ?_ ?_
                    rotate_left
                    ·intro w'; go_simp; with_reducible rfl
                    rotate_left
                    ·simp only [Act.put, List.setIfInBounds_toArray, List.set_cons_zero, List.set_cons_succ, zd, zf]; rfl
                    refine zo (i := 8) (N := some 89) (v := ?_) (a' := ?_) #[true, false, true, true, false, false, true, false, true, false, false, false, false, false, false, false, false, false, false, false, false, false, false, false, false, false, false, false, false, false, false, false, false, false, false, false, false, false, false] rfl rfl (zh HT_.out (by kernel_rfl)) (fun _ _ _ h => h) (Or.inl ⟨by rfl, ?_⟩) ?_ ?_
                    rotate_left
                    ·intro w'; go_simp; with_reducible rfl
                    rotate_left
                    ·simp only [Act.put, List.setIfInBounds_toArray, List.set_cons_zero, List.set_cons_succ, zd, zf]; rfl
                    refine zo (i := 10) (N := some 91) (v := ?_) (a' := ?_) #[true, false, true, true, false, false, true, false, true, false, true, false, false, false, false, false, false, false, false, false, false, false, false, false, false, false, false, false, false, false, false, false, false, false, false, false, false, false, false] rfl rfl (zh HT_.out (by kernel_rfl)) (fun _ _ _ h => h) (Or.inl ⟨by rfl, ?_⟩) ?_ ?_
                    rotate_left
                    ·intro w'; go_simp; with_reducible rfl
                    rotate_left
                    ·simp only [Act.put, List.setIfInBounds_toArray, List.set_cons_zero, List.set_cons_succ, zd, zf]; rfl
                    refine zo (i := 11) (N := some 92) (v := ?_) (a' := ?_) #[true, false, true, true, false, false, true, false, true, false, true, true, false, false, false, false, false, false, false, false, false, false, false, false, false, false, false, false, false, false, false, false, false, false, false, false, false, false, false] rfl rfl (zh HT_.out (by kernel_rfl)) (fun _ _ _ h => h) (Or.inl ⟨by rfl, ?_⟩) ?_ ?_
                    rotate_left
                    ·intro w'; go_simp; with_reducible rfl
                    rotate_left
                    ·simp only [Act.put, List.setIfInBounds_toArray, List.set_cons_zero, List.set_cons_succ, zd, zf]; rfl
                    refine zo (i := 14) (N := some 95) (v := ?_) (a' := ?_) #[true, false, true, true, false, false, true, false, true, false, true, true, false, false, true, false, false, false, false, false, false, false, false, false, false, false, false, false, false, false, false, false, false, false, false, false, false, false, false] rfl rfl (zh HT_.out (by kernel_rfl)) (fun _ _ _ h => h) (Or.inl ⟨by rfl, ?_⟩) ?_ ?_
                    rotate_left
                    ·intro w'; go_simp; with_reducible rfl
                    rotate_left
                    ·simp only [Act.put, List.setIfInBounds_toArray, List.set_cons_zero, List.set_cons_succ, zd, zf]; rfl
                    refine zo (i := 18) (N := some 99) (v := ?_) (a' := ?_) #[true, false, true, true, false, false, true, false, true, false, true, true, false, false, true, false, false, false, true, false, false, false, false, false, false, false, false, false, false, false, false, false, false, false, false, false, false, false, false] rfl rfl (zh HT_.out (by kernel_rfl)) (fun _ _ _ h => h) (Or.inl ⟨by rfl, ?_⟩) ?_ ?_
                    rotate_left
                    ·intro w'; go_simp; with_reducible rfl
                    rotate_left
                    ·simp only [Act.put, List.setIfInBounds_toArray, List.set_cons_zero, List.set_cons_succ, zd, zf]; rfl
                    refine zo (i := 20) (N := some 101) (v := ?_) (a' := ?_) #[true, false, true, true, false, false, true, false, true, false, true, true, false, false, true, false, false, false, true, false, true, false, false, false, false, false, false, false, false, false, false, false, false, false, false, false, false, false, false] rfl rfl (zh HT_.out (by kernel_rfl)) (fun _ _ _ h => h) (Or.inl ⟨by rfl, ?_⟩) ?_ ?_
                    rotate_left
                    ·intro w'; go_simp; with_reducible rfl
                    rotate_left
                    ·simp only [Act.put, List.setIfInBounds_toArray, List.set_cons_zero, List.set_cons_succ, zd, zf]; rfl
                    refine zo (i := 22) (N := some 103) (v := ?_) (a' := ?_) #[true, false, true, true, false, false, true, false, true, false, true, true, false, false, true, false, false, false, true, false, true, false, true, false, false, false, false, false, false, false, false, false, false, false, false, false, false, false, false] rfl rfl (zh HT_.out (by kernel_rfl)) (fun _ _ _ h => h) (Or.inl ⟨by rfl, ?_⟩) ?_ ?_
                    rotate_left
                    ·intro w'; go_simp; with_reducible rfl
                    rotate_left
                    ·simp only [Act.put, List.setIfInBounds_toArray, List.set_cons_zero, List.set_cons_succ, zd, zf]; rfl
                    refine zo (i := 24) (N := some 105) (v := ?_) (a' := ?_) #[true, false, true, true, false, false, true, false, true, false, true, true, false, false, true, false, false, false, true, false, true, false, true, false, true, false, false, false, false, false, false, false, false, false, false, false, false, false, false] rfl rfl (zh HT_.out (by kernel_rfl)) (fun _ _ _ h => h) (Or.inl ⟨by rfl, ?_⟩) ?_ ?_
                    rotate_left
                    ·intro w'; go_simp; with_reducible rfl
                    rotate_left
                    ·simp only [Act.put, List.setIfInBounds_toArray, List.set_cons_zero, List.set_cons_succ, zd, zf]; rfl
                    refine zo (i := 25) (N := some 106) (v := ?_) (a' := ?_) #[true, false, true, true, false, false, true, false, true, false, true, true, false, false, true, false, false, false, true, false, true, false, true, false, true, true, false, false, false, false, false, false, false, false, false, false, false, false, false] rfl rfl (zh HT_.out (by kernel_rfl)) (fun _ _ _ h => h) (Or.inl ⟨by rfl, ?_⟩) ?_ ?_
                    rotate_left
                    ·intro w'; go_simp; with_reducible rfl
                    rotate_left
                    ·simp only [Act.put, List.setIfInBounds_toArray, List.set_cons_zero, List.set_cons_succ, zd, zf]; rfl
                    refine zo (i := 28) (N := some 109) (v := ?_) (a' := ?_) #[true, false, true, true, false, false, true, false, true, false, true, true, false, false, true, false, false, false, true, false, true, false, true, false, true, true, false, false, true, false, false, false, false, false, false, false, false, false, false] rfl rfl (zh HT_.out (by kernel_rfl)) (fun _ _ _ h => h) (Or.inl ⟨by rfl, ?_⟩) ?_ ?_
                    rotate_left
                    ·intro w'; go_simp; with_reducible rfl
                    rotate_left
                    ·simp only [Act.put, List.setIfInBounds_toArray, List.set_cons_zero, List.set_cons_succ, zd, zf]; rfl
                    refine zo (i := 34) (N := some 115) (v := ?_) (a' := ?_) #[true, false, true, true, false, false, true, false, true, false, true, true, false, false, true, false, false, false, true, false, true, false, true, false, true, true, false, false, true, false, false, false, false, false, true, false, false, false, false] rfl rfl (zh HT_.out (by kernel_rfl)) (fun _ _ _ h => h) (Or.inl ⟨by rfl, ?_⟩) ?_ ?_
                    rotate_left
                    ·intro w'; go_simp; with_reducible rfl
                    rotate_left
                    ·simp only [Act.put, List.setIfInBounds_toArray, List.set_cons_zero, List.set_cons_succ, zd, zf]; rfl
                    refine qa (i := 1) (N := some 82) (v := ?_) (a' := ?_) #[true, true, true, true, false, false, true, false, true, false, true, true, false, false, true, false, false, false, true, false, true, false, true, false, true, true, false, false, true, false, false, false, false, false, true, false, false, false, false] rfl rfl (zA HT_.out HW_.out (by kernel_rfl)) (fun _ _ _ h => h) (Or.inl ⟨by rfl, ?_⟩) hHeld ?_ ?_
                    rotate_left
                    ·rintro w' ⟨s0, s1, s2, s3, s4, s5⟩; go_simp; with_reducible rfl
                    rotate_left
                    ·simp only [Act.put, List.setIfInBounds_toArray, List.set_cons_zero, List.set_cons_succ, zd, zf]; rfl
                    refine qa (i := 4) (N := some 85) (v := ?_) (a' := ?_) #[true, true, true, true, true, false, true, false, true, false, true, true, false, false, true, false, false, false, true, false, true, false, true, false, true, true, false, false, true, false, false, false, false, false, true, false, false, false, false] rfl rfl (zA HT_.out HW_.out (by kernel_rfl)) (fun _ _ _ h => h) (Or.inl ⟨by rfl, ?_⟩) hHeld ?_ ?_
                    rotate_left
                    ·rintro w' ⟨s0, s1, s2, s3, s4, s5⟩; go_simp; with_reducible rfl
                    rotate_left
                    ·simp only [Act.put, List.setIfInBounds_toArray, List.set_cons_zero, List.set_cons_succ, zd, zf]; rfl
                    refine zo (i := 5) (N := some 86) (v := ?_) (a' := ?_) #[true, true, true, true, true, true, true, false, true, false, true, true, false, false, true, false, false, false, true, false, true, false, true, false, true, true, false, false, true, false, false, false, false, false, true, false, false, false, false] rfl rfl (zh HT_.out (by kernel_rfl)) (fun _ _ _ h => h) (Or.inl ⟨by rfl, ?_⟩) ?_ ?_
                    rotate_left
                    ·intro w'; go_simp; with_reducible rfl
                    rotate_left
                    ·simp only [Act.put, List.setIfInBounds_toArray, List.set_cons_zero, List.set_cons_succ, zd, zf]; rfl
                    refine zo (i := 7) (N := some 88) (v := ?_) (a' := ?_) #[true, true, true, true, true, true, true, true, true, false, true, true, false, false, true, false, false, false, true, false, true, false, true, false, true, true, false, false, true, false, false, false, false, false, true, false, false, false, false] rfl rfl (zh HT_.out (by kernel_rfl)) (fun _ _ _ h => h) (Or.inl ⟨by rfl, ?_⟩) ?_ ?_
                    rotate_left
                    ·intro w'; go_simp; with_reducible rfl
                    rotate_left
                    ·simp only [Act.put, List.setIfInBounds_toArray, List.set_cons_zero, List.set_cons_succ, zd, zf]; rfl
                    refine qa (i := 9) (N := some 90) (v := ?_) (a' := ?_) #[true, true, true, true, true, true, true, true, true, true, true, true, false, false, true, false, false, false, true, false, true, false, true, false, true, true, false, false, true, false, false, false, false, false, true, false, false, false, false] rfl rfl (zA HT_.out HW_.out (by kernel_rfl)) (fun _ _ _ h => h) (Or.inl ⟨by rfl, ?_⟩) hHeld ?_ ?_
                    rotate_left
                    ·rintro w' ⟨s0, s1, s2, s3, s4, s5⟩; go_simp; with_reducible rfl
                    rotate_left
                    ·simp only [Act.put, List.setIfInBounds_toArray, List.set_cons_zero, List.set_cons_succ, zd, zf]; rfl
                    refine qa (i := 12) (N := some 93) (v := ?_) (a' := ?_) #[true, true, true, true, true, true, true, true, true, true, true, true, true, false, true, false, false, false, true, false, true, false, true, false, true, true, false, false, true, false, false, false, false, false, true, false, false, false, false] rfl rfl (zA HT_.out HW_.out (by kernel_rfl)) (fun _ _ _ h => h) (Or.inl ⟨by rfl, ?_⟩) hHeld ?_ ?_
                    rotate_left
                    ·rintro w' ⟨s0, s1, s2, s3, s4, s5⟩; go_simp; with_reducible rfl
                    rotate_left
                    ·simp only [Act.put, List.setIfInBounds_toArray, List.set_cons_zero, List.set_cons_succ, zd, zf]; rfl
                    refine zo (i := 13) (N := some 94) (v := ?_) (a' := ?_) #[true, true, true, true, true, true, true, true, true, true, true, true, true, true, true, false, false, false, true, false, true, false, true, false, true, true, false, false, true, false, false, false, false, false, true, false, false, false, false] rfl rfl (zh HT_.out (by kernel_rfl)) (fun _ _ _ h => h) (Or.inl ⟨by rfl, ?_⟩) ?_ ?_
                    rotate_left
                    ·intro w'; go_simp; with_reducible rfl
                    rotate_left
                    ·simp only [Act.put, List.setIfInBounds_toArray, List.set_cons_zero, List.set_cons_succ, zd, zf]; rfl
                    refine zo (i := 15) (N := some 96) (v := ?_) (a' := ?_) #[true, true, true, true, true, true, true, true, true, true, true, true, true, true, true, true, false, false, true, false, true, false, true, false, true, true, false, false, true, false, false, false, false, false, true, false, false, false, false] rfl rfl (zh HT_.out (by kernel_rfl)) (fun _ _ _ h => h) (Or.inl ⟨by rfl, ?_⟩) ?_ ?_
                    rotate_left
                    ·intro w'; go_simp; with_reducible rfl
                    rotate_left
                    ·simp only [Act.put, List.setIfInBounds_toArray, List.set_cons_zero, List.set_cons_succ, zd, zf]; rfl
                    refine zo (i := 16) (N := some 97) (v := ?_) (a' := ?_) #[true, true, true, true, true, true, true, true, true, true, true, true, true, true, true, true, true, false, true, false, true, false, true, false, true, true, false, false, true, false, false, false, false, false, true, false, false, false, false] rfl rfl (zh HT_.out (by kernel_rfl)) (fun _ _ _ h => h) (Or.inl ⟨by rfl, ?_⟩) ?_ ?_
                    rotate_left
                    ·intro w'; go_simp; with_reducible rfl
                    rotate_left
                    ·simp only [Act.put, List.setIfInBounds_toArray, List.set_cons_zero, List.set_cons_succ, zd, zf]; rfl
                    refine qa (i := 17) (N := some 98) (v := ?_) (a' := ?_) #[true, true, true, true, true, true, true, true, true, true, true, true, true, true, true, true, true, true, true, false, true, false, true, false, true, true, false, false, true, false, false, false, false, false, true, false, false, false, false] rfl rfl (zA HT_.out HW_.out (by kernel_rfl)) (fun _ _ _ h => h) (Or.inl ⟨by rfl, ?_⟩) hHeld ?_ ?_
                    rotate_left
                    ·rintro w' ⟨s0, s1, s2, s3, s4, s5⟩; go_simp; with_reducible rfl
                    rotate_left
                    ·simp only [Act.put, List.setIfInBounds_toArray, List.set_cons_zero, List.set_cons_succ, zd, zf]; rfl
                    refine qa (i := 19) (N := some 100) (v := ?_) (a' := ?_) #[true, true, true, true, true, true, true, true, true, true, true, true, true, true, true, true, true, true, true, true, true, false, true, false, true, true, false, false, true, false, false, false, false, false, true, false, false, false, false] rfl rfl (zA HT_.out HW_.out (by kernel_rfl)) (fun _ _ _ h => h) (Or.inl ⟨by rfl, ?_⟩) hHeld ?_ ?_
                    rotate_left
                    ·rintro w' ⟨s0, s1, s2, s3, s4, s5⟩; go_simp; with_reducible rfl
                    rotate_left
                    ·simp only [Act.put, List.setIfInBounds_toArray, List.set_cons_zero, List.set_cons_succ, zd, zf]; rfl
                    refine zo (i := 21) (N := some 102) (v := ?_) (a' := ?_) #[true, true, true, true, true, true, true, true, true, true, true, true, true, true, true, true, true, true, true, true, true, true, true, false, true, true, false, false, true, false, false, false, false, false, true, false, false, false, false] rfl rfl (zh HT_.out (by kernel_rfl)) (fun _ _ _ h => h) (Or.inl ⟨by rfl, ?_⟩) ?_ ?_
                    rotate_left
                    ·intro w'; go_simp; with_reducible rfl
                    rotate_left
                    ·simp only [Act.put, List.setIfInBounds_toArray, List.set_cons_zero, List.set_cons_succ, zd, zf]; rfl
                    refine qa (i := 23) (N := some 104) (v := ?_) (a' := ?_) #[true, true, true, true, true, true, true, true, true, true, true, true, true, true, true, true, true, true, true, true, true, true, true, true, true, true, false, false, true, false, false, false, false, false, true, false, false, false, false] rfl rfl (zA HT_.out HW_.out (by kernel_rfl)) (fun _ _ _ h => h) (Or.inl ⟨by rfl, ?_⟩) hHeld ?_ ?_
                    rotate_left
                    ·rintro w' ⟨s0, s1, s2, s3, s4, s5⟩; go_simp; with_reducible rfl
                    rotate_left
                    ·simp only [Act.put, List.setIfInBounds_toArray, List.set_cons_zero, List.set_cons_succ, zd, zf]; rfl
                    refine qa (i := 26) (N := some 107) (v := ?_) (a' := ?_) #[true, true, true, true, true, true, true, true, true, true, true, true, true, true, true, true, true, true, true, true, true, true, true, true, true, true, true, false, true, false, false, false, false, false, true, false, false, false, false] rfl rfl (zA HT_.out HW_.out (by kernel_rfl)) (fun _ _ _ h => h) (Or.inl ⟨by rfl, ?_⟩) hHeld ?_ ?_
                    rotate_left
                    ·rintro w' ⟨s0, s1, s2, s3, s4, s5⟩; go_simp; with_reducible rfl
                    rotate_left
                    ·simp only [Act.put, List.setIfInBounds_toArray, List.set_cons_zero, List.set_cons_succ, zd, zf]; rfl
                    refine zo (i := 27) (N := some 108) (v := ?_) (a' := ?_) #[true, true, true, true, true, true, true, true, true, true, true, true, true, true, true, true, true, true, true, true, true, true, true, true, true, true, true, true, true, false, false, false, false, false, true, false, false, false, false] rfl rfl (zh HT_.out (by kernel_rfl)) (fun _ _ _ h => h) (Or.inl ⟨by rfl, ?_⟩) ?_ ?_
                    rotate_left
                    ·intro w'; go_simp; with_reducible rfl
                    rotate_left
                    ·simp only [Act.put, List.setIfInBounds_toArray, List.set_cons_zero, List.set_cons_succ, zd, zf]; rfl
                    refine zo (i := 29) (N := some 110) (v := ?_) (a' := ?_) #[true, true, true, true, true, true, true, true, true, true, true, true, true, true, true, true, true, true, true, true, true, true, true, true, true, true, true, true, true, true, false, false, false, false, true, false, false, false, false] rfl rfl (zh HT_.out (by kernel_rfl)) (fun _ _ _ h => h) (Or.inl ⟨by rfl, ?_⟩) ?_ ?_
                    rotate_left
                    ·intro w'; go_simp; with_reducible rfl
                    rotate_left
                    ·simp only [Act.put, List.setIfInBounds_toArray, List.set_cons_zero, List.set_cons_succ, zd, zf]; rfl
                    refine zo (i := 30) (N := some 111) (v := ?_) (a' := ?_) #[true, true, true, true, true, true, true, true, true, true, true, true, true, true, true, true, true, true, true, true, true, true, true, true, true, true, true, true, true, true, true, false, false, false, true, false, false, false, false] rfl rfl (zh HT_.out (by kernel_rfl)) (fun _ _ _ h => h) (Or.inl ⟨by rfl, ?_⟩) ?_ ?_
                    rotate_left
                    ·intro w'; go_simp; with_reducible rfl
                    rotate_left
                    ·simp only [Act.put, List.setIfInBounds_toArray, List.set_cons_zero, List.set_cons_succ, zd, zf]; rfl
                    refine qa (i := 31) (N := some 112) (v := ?_) (a' := ?_) #[true, true, true, true, true, true, true, true, true, true, true, true, true, true, true, true, true, true, true, true, true, true, true, true, true, true, true, true, true, true, true, true, false, false, true, false, false, false, false] rfl rfl (zA HT_.out HW_.out (by kernel_rfl)) (fun _ _ _ h => h) (Or.inl ⟨by rfl, ?_⟩) hHeld ?_ ?_
                    rotate_left
                    ·rintro w' ⟨s0, s1, s2, s3, s4, s5⟩; go_simp; with_reducible rfl
                    rotate_left
                    ·simp only [Act.put, List.setIfInBounds_toArray, List.set_cons_zero, List.set_cons_succ, zd, zf]; rfl
                    refine zo (i := 32) (N := some 113) (v := ?_) (a' := ?_) #[true, true, true, true, true, true, true, true, true, true, true, true, true, true, true, true, true, true, true, true, true, true, true, true, true, true, true, true, true, true, true, true, true, false, true, false, false, false, false] rfl rfl (zh HT_.out (by kernel_rfl)) (fun _ _ _ h => h) (Or.inl ⟨by rfl, ?_⟩) ?_ ?_
                    rotate_left
                    ·intro w'; go_simp; with_reducible rfl
                    rotate_left
                    ·simp only [Act.put, List.setIfInBounds_toArray, List.set_cons_zero, List.set_cons_succ, zd, zf]; rfl
                    refine zo (i := 33) (N := some 114) (v := ?_) (a' := ?_) #[true, true, true, true, true, true, true, true, true, true, true, true, true, true, true, true, true, true, true, true, true, true, true, true, true, true, true, true, true, true, true, true, true, true, true, false, false, false, false] rfl rfl (zh HT_.out (by kernel_rfl)) (fun _ _ _ h => h) (Or.inl ⟨by rfl, ?_⟩) ?_ ?_
                    rotate_left
                    ·intro w'; go_simp; with_reducible rfl
                    rotate_left
                    ·simp only [Act.put, List.setIfInBounds_toArray, List.set_cons_zero, List.set_cons_succ, zd, zf]; rfl
                    refine qa (i := 35) (N := some 116) (v := ?_) (a' := ?_) #[true, true, true, true, true, true, true, true, true, true, true, true, true, true, true, true, true, true, true, true, true, true, true, true, true, true, true, true, true, true, true, true, true, true, true, true, false, false, false] rfl rfl (zA HT_.out HW_.out (by kernel_rfl)) (fun _ _ _ h => h) (Or.inl ⟨by rfl, ?_⟩) hHeld ?_ ?_
                    rotate_left
                    ·rintro w' ⟨s0, s1, s2, s3, s4, s5⟩; go_simp; with_reducible rfl
                    rotate_left
                    ·simp only [Act.put, List.setIfInBounds_toArray, List.set_cons_zero, List.set_cons_succ, zd, zf]; rfl
                    refine zo (i := 36) (N := some 117) (v := ?_) (a' := ?_) #[true, true, true, true, true, true, true, true, true, true, true, true, true, true, true, true, true, true, true, true, true, true, true, true, true, true, true, true, true, true, true, true, true, true, true, true, true, false, false] rfl rfl (zh HT_.out (by kernel_rfl)) (fun _ _ _ h => h) (Or.inl ⟨by rfl, ?_⟩) ?_ ?_
                    rotate_left
                    ·intro w'; go_simp; with_reducible rfl
                    rotate_left
                    ·simp only [Act.put, List.setIfInBounds_toArray, List.set_cons_zero, List.set_cons_succ, zd, zf]; rfl
                    refine zo (i := 37) (N := some 118) (v := ?_) (a' := ?_) #[true, true, true, true, true, true, true, true, true, true, true, true, true, true, true, true, true, true, true, true, true, true, true, true, true, true, true, true, true, true, true, true, true, true, true, true, true, true, false] rfl rfl (zh HT_.out (by kernel_rfl)) (fun _ _ _ h => h) (Or.inl ⟨by rfl, ?_⟩) ?_ ?_
                    rotate_left
                    ·intro w'; go_simp; with_reducible rfl
                    rotate_left
                    ·simp only [Act.put, List.setIfInBounds_toArray, List.set_cons_zero, List.set_cons_succ, zd, zf]; rfl
                    refine yT (i := 38) (N := none) #[true, true, true, true, true, true, true, true, true, true, true, true, true, true, true, true, true, true, true, true, true, true, true, true, true, true, true, true, true, true, true, true, true, true, true, true, true, true, true] rfl rfl (ji HT_.out (by kernel_rfl)) (by decide) (fun K hK => ?_)
                    refine yi (w1 := ?_) (by rfl) rfl ?_ ?_
                    rotate_left
                    ·go_simp
                     rfl
                    refine hK.out _ _ ?_
                    clear hK K
                    refine vM (jE HT_.out (by kernel_rfl)) ?_
                    try go_wp2
                    (try simp only [← hl148003_3])
                    go_roundg k3
                    case measure => have := HK1.out; have := HK2.out; have := HK3.out; omega
                    case rel => exact ⟨(wrap64 (x10_3 + 1)), (y155), (sqD), H', ⟨by have := HK1.out; have := HK2.out; have := HK3.out; omega⟩, ⟨by (try simp only [hl148003_1]); (try simp only [hl148003_2]); (try simp only [hl148003_3]); refine sqR ?_; exact HQ39.out⟩, ⟨by (try simp only [hl148003_1]); (try simp only [hl148003_2]); (try simp only [hl148003_3]); refine sqK ?_; refine zB ?_ (by have h_ := Kd.jr HO_148003.out BK147.out (by decide); intro e_; exact h_ (by rw [e_]; rfl)) _; refine sqK ?_; exact BK147.out⟩, ⟨by repeat (first | (with_reducible first | exact HK.out | apply Kept.alloc | apply Kept.drewN | apply Kept.drew | refine Kept.setCell ?_ HMgo36.out _ | refine Kept.setCell ?_ (.inr GW147.out) _) | exact HK.out)⟩, ⟨by repeat (first | (with_reducible first | exact HB.out | apply zZ | apply zW | apply zL | refine zM ?_ GB36.out | refine zM ?_ GE147.out) | exact HB.out)⟩⟩
                  ·rw [if_neg c34] at H
                   exact absurd H (by simp)
                 ·rw [if_neg c33] at H
                  exact absurd H (by simp)
                ·rw [if_neg c31] at H
                 exact absurd H (by simp)
               ·rw [if_neg c30] at H
                exact absurd H (by simp)
             ·rw [if_neg c26] at H
              have c26b0 : decide (x10_3 < a0_2) = false := decide_eq_false c26
              clear c26
              have H' := Aside0.mk H
              clear H
              have hcz40_0 : wr.cell? ⟨gb147, 0, none⟩ = some (.int .i64 a0_0) := (zb BK147.out 0).trans rfl
              have hcz40_1 : wr.cell? ⟨gb147, 1, none⟩ = some (.int .i64 a0_1) := (zb BK147.out 1).trans rfl
              have hcz40_2 : wr.cell? ⟨gb147, 2, none⟩ = some (.int .i64 a0_2) := (zb BK147.out 2).trans rfl
              have hcz40_3 : wr.cell? ⟨gb147, 3, none⟩ = some (.slice (some ad148) x148003_3.length co8) := (zb BK147.out 3).trans rfl
              have hfz40_0 := za BK147.out 0; have hfz40_1 := za BK147.out 1; have hfz40_2 := za BK147.out 2; have hfz40_3 := za BK147.out 3
              go_wp2
              (try simp only [← hl148003_2, ← hl148003_3])
              go_roundg k3
              case measure => have := HK1.out; have := HK2.out; have := HK3.out; omega
              case rel => exact ⟨(wrap64 (x8_2 + 1)), (x148003_3), (sqD), H', ⟨by have := HK1.out; have := HK2.out; have := HK3.out; omega⟩, ⟨by (try simp only [hl148003_1]); (try simp only [hl148003_2]); (try simp only [hl148003_3]); refine sqR ?_; exact HO_148003.out⟩, ⟨by (try simp only [hl148003_1]); (try simp only [hl148003_2]); (try simp only [hl148003_3]); refine sqK ?_; exact BK147.out⟩, ⟨by repeat (first | (with_reducible first | exact HK.out | apply Kept.alloc | apply Kept.drewN | apply Kept.drew | refine Kept.setCell ?_ (.inr GW147.out) _) | exact HK.out)⟩, ⟨sqB⟩⟩
          ·rw [if_neg c24] at H
           exact absurd H (by simp)
         ·rw [if_neg c23] at H
          exact absurd H (by simp)
        ·rw [if_neg c21] at H
         have c21b0 : decide (x8_2 < a0_1) = false := decide_eq_false c21
         clear c21
         obtain rfl := Option.some.inj H
         have hcz41_0 : wr.cell? ⟨gb147, 0, none⟩ = some (.int .i64 a0_0) := (zb BK147.out 0).trans rfl
         have hcz41_1 : wr.cell? ⟨gb147, 1, none⟩ = some (.int .i64 a0_1) := (zb BK147.out 1).trans rfl
         have hcz41_2 : wr.cell? ⟨gb147, 2, none⟩ = some (.int .i64 a0_2) := (zb BK147.out 2).trans rfl
         have hcz41_3 : wr.cell? ⟨gb147, 3, none⟩ = some (.slice (some ad148) x148003_2.length co8) := (zb BK147.out 3).trans rfl
         have hfz41_0 := za BK147.out 0; have hfz41_1 := za BK147.out 1; have hfz41_2 := za BK147.out 2; have hfz41_3 := za BK147.out 3
         go_wp2
         first | go_end0 | ((try simp only [Exit.inBlock, Exit.then]); refine bodyPost_ret (results_none rfl _ _ _) rfl ?_)
         exact ⟨by first | rfl | (simp [qR, qO] <;> rfl) | (simp only [← hji4]; first | rfl | (simp [qR, qO] <;> rfl)) | (simp [*, qR, qO] <;> rfl), (by first | exact (sqR HO_148003.out) | (simp only [hl148003_1, hl148003_2]; exact (sqR HO_148003.out))), sqB, by repeat (first | (with_reducible first | exact HK.out | apply Kept.alloc | apply Kept.drewN | apply Kept.drew | refine Kept.setCell ?_ (.inr GW147.out) _) | exact HK.out)⟩
  ·rw [if_neg c6] at H
   exact absurd H (by simp)
 ·rw [if_neg c5] at H
  exact absurd H (by simp)

end Go.Proofs.Ytopkfhnnapncgaa.F
end
