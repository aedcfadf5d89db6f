/- Several texts of this session in one: Fx2, GvFunc, GvFirstFailure, Fx4, Fx3, Fx5, GvSetsOf, GvFromRankTableQ. Conditions: as each theorem says. -/
import Derived.Test.YtmeopnlkddflaaaZFromRankTable0
import Derived.Test.YtmeopnlkddflaaaZFromRankTable1
import Derived.Shelf.Abstract
set_option maxHeartbeats 8000000
set_option maxRecDepth 100000
section
namespace Go.Proofs.Ytmeopnlkddflaaa.F
open Go.RowKit Go.Proofs.YtmeopnlkddflaaaW.PrintWords Go.Proofs.YtmeopnlkddflaaaW.PrintLast Go.Proofs.YtmeopnlkddflaaaW.PrintMore
attribute [local go_sem] q4 q6 jz jx qW qT qZ q3   -- for this text's walks alone
set_option linter.unusedVariables false
set_option linter.unusedSimpArgs false

def qo.f (k : Nat) (a0_0 : Int) (l0_1 : List Int) : Option (Bool) := (zk.f k a0_0 l0_1).bind fun bt129 => ((zC.f k a0_0 l0_1).bind fun t134 => (if t134 = true then (if (l0_1.length : Int) > 0 then (some (!bt129.2.2.2)) else (some false)) else (some false)))
theorem qo.calls (k : Nat) (a0_0 : Int) (A0_1 : Option Addr) (c0_1 : Nat) (l0_1 : List Int) (r : Bool) (w : World) (hr0_1 : Kd.C (Kd.int .i64) w A0_1 l0_1.length l0_1) (hc0_1 : l0_1.length ≤ c0_1) (h : qo.f k a0_0 l0_1 = some r) :
  Calls Try.prog 49 #[.agg #[.int .i64 a0_0, .slice A0_1 l0_1.length c0_1]] w fun e w' => e = .returned (.bool r) ∧ Below w.heap.size w w' := by
 have hu27 := Try.underlying27
 have hu53 := Try.underlying53
 have HR0_1 := Aside0.mk hr0_1
 have HC0_1 := Aside0.mk hc0_1
 clear hr0_1 hc0_1
 have HB := Aside0.mk (Below.refl w.heap.size w)
 have H : ((zk.f k a0_0 l0_1).bind fun bt129 => ((zC.f k a0_0 l0_1).bind fun t134 => (if t134 = true then (if (l0_1.length : Int) > 0 then (some (!bt129.2.2.2)) else (some false)) else (some false)))) = some r := h
 clear h
 replace H := Option.bind_eq_some_iff.mp H
 obtain ⟨⟨t129, t130, t131, t132⟩, A20, H⟩ := H
 replace H : ((zC.f k a0_0 l0_1).bind fun t134 => (if t134 = true then (if (l0_1.length : Int) > 0 then (some (!t132)) else (some false)) else (some false))) = some r := H
 have A2 := Aside0.mk A20
 clear A20
 replace H := Option.bind_eq_some_iff.mp H
 obtain ⟨t134, A30, H⟩ := H
 replace H : (if t134 = true then (if (l0_1.length : Int) > 0 then (some (!t132)) else (some false)) else (some false)) = some r := H
 have A3 := Aside0.mk A30
 clear A30
 by_cases c4 : t134 = true
 ·subst c4
  have H1 : (if (l0_1.length : Int) > 0 then (some (!t132)) else (some false)) = some r := by rw [if_pos rfl] at H; exact H
  clear H
  have H := H1
  clear H1
  by_cases c5 : (l0_1.length : Int) > 0
  ·rw [if_pos c5] at H
   have c5b0 : decide (0 < (l0_1.length : Int)) = true := decide_eq_true c5
   have c5b1 : decide (0 < l0_1.length) = true := decide_eq_true (by omega)
   clear c5
   obtain rfl := Option.some.inj H
   go_enter Try.func49, Try.ntmps49
   go_wp2_with (first | ((with_reducible refine zr (N := 1) rfl ?_); (try (refine zP (by rfl) ?_; dsimp only)); refine zq ?hg (N := 1) ?hd (cs := #[.int .i64 a0_0, .slice A0_1 l0_1.length c0_1]) (t := 27) ?hr ?_; (case hd => rfl); (case hg => rfl); (case hr => exact sqG); intro gb128 hg w6 hbox hb; have n0_ := Aside0.mk (ze sqB hb); have n1_ := Aside0.mk (hbox); have n2_ := Aside0.mk ((sqS hg : w.heap.size ≤ gb128)); have n3_ := Aside0.mk ((sqS hg : w.heap.size ≤ gb128)); clear HB; have HB := n0_; have BK128 := n1_; have GW128 := n2_; have GE128 := n3_; clear n0_ n1_ n2_ n3_; clear hb hbox hg; have hcz7_0 : w6.cell? ⟨gb128, 0, none⟩ = some (.int .i64 a0_0) := (za BK128.out 0).trans rfl; have hcz7_1 : w6.cell? ⟨gb128, 1, none⟩ = some (.slice A0_1 l0_1.length c0_1) := (za BK128.out 1).trans rfl; have hfz7_0 := zb BK128.out 0; have hfz7_1 := zb BK128.out 1) | ((with_reducible refine zg (f := 71) rfl ?_); refine zx (some 7) rfl rfl Try.func71 (by kernel_rfl) rfl #[.agg #[.int .i64 a0_0, .slice A0_1 l0_1.length c0_1]] rfl sqM ?_; (with_reducible refine (zk.calls k a0_0 _ _ l0_1 t129 t130 t131 t132 _ ?side1 ?side2 A2.out).mono ?_); (case side1 => exact sqC (Kd.zH HR0_1.out HB.out)); (case side2 => exact HC0_1.out); rintro e w8 ⟨rfl, hb⟩; refine ⟨_, rfl, ?_⟩; have n0_ := Aside0.mk (zd (g := gb128) (o := .cells #[.int .i64 a0_0, .slice A0_1 l0_1.length c0_1] 27 (0, 0)) (sqK BK128.out) hb); have n1_ := Aside0.mk (ze sqB hb); clear BK128; clear HB; have BK128 := n0_; have HB := n1_; clear n0_ n1_; (try clear hb); (try clear hb2); (try clear hk); (try clear hi)) | ((with_reducible refine zr (N := 3) rfl ?_); (try (refine zP (by rfl) ?_; dsimp only)); refine zq ?hg (N := 3) ?hd (cs := #[.int .i64 0, .int .i64 0, .int .i64 0]) (t := 53) ?hr ?_; (case hd => rfl); (case hg => rfl); (case hr => exact sqG); intro gb133 hg w9 hbox hb; have n0_ := Aside0.mk (zd (g := gb128) (o := .cells #[.int .i64 a0_0, .slice A0_1 l0_1.length c0_1] 27 (0, 0)) (sqK BK128.out) hb); have n1_ := Aside0.mk (ze sqB hb); have n2_ := Aside0.mk (hbox); have n3_ := Aside0.mk ((sqS hg : w.heap.size ≤ gb133)); have n4_ := Aside0.mk ((sqS hg : w.heap.size ≤ gb133)); have n5_ := Aside0.mk ((by rw [hg]; exact Nat.ne_of_lt (zR (g := gb128) (o := .cells #[.int .i64 a0_0, .slice A0_1 l0_1.length c0_1] 27 (0, 0)) (sqK BK128.out)) : gb128 ≠ gb133)); have n6_ := Aside0.mk ((by rw [hg]; exact Nat.ne_of_gt (zR (g := gb128) (o := .cells #[.int .i64 a0_0, .slice A0_1 l0_1.length c0_1] 27 (0, 0)) (sqK BK128.out)) : gb133 ≠ gb128)); clear BK128; clear HB; have BK128 := n0_; have HB := n1_; have BK133 := n2_; have GW133 := n3_; have GE133 := n4_; have NB128_133 := n5_; have NB133_128 := n6_; clear n0_ n1_ n2_ n3_ n4_ n5_ n6_; clear hb hbox hg; have hnb10 := NB133_128.out; have hnc10 := NB128_133.out; have hcz11_0 : w9.cell? ⟨gb133, 0, none⟩ = some (.int .i64 0) := (za BK133.out 0).trans rfl; have hcz11_1 : w9.cell? ⟨gb133, 1, none⟩ = some (.int .i64 0) := (za BK133.out 1).trans rfl; have hcz11_2 : w9.cell? ⟨gb133, 2, none⟩ = some (.int .i64 0) := (za BK133.out 2).trans rfl; have hfz11_0 := zb BK133.out 0; have hfz11_1 := zb BK133.out 1; have hfz11_2 := zb BK133.out 2; have hcz12_0 : w9.cell? ⟨gb128, 0, none⟩ = some (.int .i64 a0_0) := (za BK128.out 0).trans rfl; have hcz12_1 : w9.cell? ⟨gb128, 1, none⟩ = some (.slice A0_1 l0_1.length c0_1) := (za BK128.out 1).trans rfl; have hfz12_0 := zb BK128.out 0; have hfz12_1 := zb BK128.out 1) | ((with_reducible refine zg (f := 72) rfl ?_); refine zx (some 14) rfl rfl Try.func72 (by kernel_rfl) rfl #[.int .i64 a0_0, .slice A0_1 l0_1.length c0_1] rfl sqM ?_; (with_reducible refine (zC.calls k a0_0 _ _ l0_1 true _ ?side1 ?side2 A3.out).mono ?_); (case side1 => exact Kd.zH HR0_1.out sqB); (case side2 => exact HC0_1.out); rintro e w' ⟨rfl, ⟨nd, rfl⟩⟩; refine ⟨_, rfl, ?_⟩))
   go_ret
   exact ⟨sqE, sqB⟩
  ·rw [if_neg c5] at H
   have c5b0 : decide (0 < (l0_1.length : Int)) = false := decide_eq_false c5
   have c5b1 : decide (0 < l0_1.length) = false := decide_eq_false (by omega)
   clear c5
   obtain rfl := Option.some.inj H
   go_enter Try.func49, Try.ntmps49
   go_wp2_with (first | ((with_reducible refine zr (N := 1) rfl ?_); (try (refine zP (by rfl) ?_; dsimp only)); refine zq ?hg (N := 1) ?hd (cs := #[.int .i64 a0_0, .slice A0_1 l0_1.length c0_1]) (t := 27) ?hr ?_; (case hd => rfl); (case hg => rfl); (case hr => exact sqG); intro gb128 hg w13 hbox hb; have n0_ := Aside0.mk (ze sqB hb); have n1_ := Aside0.mk (hbox); have n2_ := Aside0.mk ((sqS hg : w.heap.size ≤ gb128)); have n3_ := Aside0.mk ((sqS hg : w.heap.size ≤ gb128)); clear HB; have HB := n0_; have BK128 := n1_; have GW128 := n2_; have GE128 := n3_; clear n0_ n1_ n2_ n3_; clear hb hbox hg; have hcz14_0 : w13.cell? ⟨gb128, 0, none⟩ = some (.int .i64 a0_0) := (za BK128.out 0).trans rfl; have hcz14_1 : w13.cell? ⟨gb128, 1, none⟩ = some (.slice A0_1 l0_1.length c0_1) := (za BK128.out 1).trans rfl; have hfz14_0 := zb BK128.out 0; have hfz14_1 := zb BK128.out 1) | ((with_reducible refine zg (f := 71) rfl ?_); refine zx (some 7) rfl rfl Try.func71 (by kernel_rfl) rfl #[.agg #[.int .i64 a0_0, .slice A0_1 l0_1.length c0_1]] rfl sqM ?_; (with_reducible refine (zk.calls k a0_0 _ _ l0_1 t129 t130 t131 t132 _ ?side1 ?side2 A2.out).mono ?_); (case side1 => exact sqC (Kd.zH HR0_1.out HB.out)); (case side2 => exact HC0_1.out); rintro e w15 ⟨rfl, hb⟩; refine ⟨_, rfl, ?_⟩; have n0_ := Aside0.mk (zd (g := gb128) (o := .cells #[.int .i64 a0_0, .slice A0_1 l0_1.length c0_1] 27 (0, 0)) (sqK BK128.out) hb); have n1_ := Aside0.mk (ze sqB hb); clear BK128; clear HB; have BK128 := n0_; have HB := n1_; clear n0_ n1_; (try clear hb); (try clear hb2); (try clear hk); (try clear hi)) | ((with_reducible refine zr (N := 3) rfl ?_); (try (refine zP (by rfl) ?_; dsimp only)); refine zq ?hg (N := 3) ?hd (cs := #[.int .i64 0, .int .i64 0, .int .i64 0]) (t := 53) ?hr ?_; (case hd => rfl); (case hg => rfl); (case hr => exact sqG); intro gb133 hg w16 hbox hb; have n0_ := Aside0.mk (zd (g := gb128) (o := .cells #[.int .i64 a0_0, .slice A0_1 l0_1.length c0_1] 27 (0, 0)) (sqK BK128.out) hb); have n1_ := Aside0.mk (ze sqB hb); have n2_ := Aside0.mk (hbox); have n3_ := Aside0.mk ((sqS hg : w.heap.size ≤ gb133)); have n4_ := Aside0.mk ((sqS hg : w.heap.size ≤ gb133)); have n5_ := Aside0.mk ((by rw [hg]; exact Nat.ne_of_lt (zR (g := gb128) (o := .cells #[.int .i64 a0_0, .slice A0_1 l0_1.length c0_1] 27 (0, 0)) (sqK BK128.out)) : gb128 ≠ gb133)); have n6_ := Aside0.mk ((by rw [hg]; exact Nat.ne_of_gt (zR (g := gb128) (o := .cells #[.int .i64 a0_0, .slice A0_1 l0_1.length c0_1] 27 (0, 0)) (sqK BK128.out)) : gb133 ≠ gb128)); clear BK128; clear HB; have BK128 := n0_; have HB := n1_; have BK133 := n2_; have GW133 := n3_; have GE133 := n4_; have NB128_133 := n5_; have NB133_128 := n6_; clear n0_ n1_ n2_ n3_ n4_ n5_ n6_; clear hb hbox hg; have hnb17 := NB133_128.out; have hnc17 := NB128_133.out; have hcz18_0 : w16.cell? ⟨gb133, 0, none⟩ = some (.int .i64 0) := (za BK133.out 0).trans rfl; have hcz18_1 : w16.cell? ⟨gb133, 1, none⟩ = some (.int .i64 0) := (za BK133.out 1).trans rfl; have hcz18_2 : w16.cell? ⟨gb133, 2, none⟩ = some (.int .i64 0) := (za BK133.out 2).trans rfl; have hfz18_0 := zb BK133.out 0; have hfz18_1 := zb BK133.out 1; have hfz18_2 := zb BK133.out 2; have hcz19_0 : w16.cell? ⟨gb128, 0, none⟩ = some (.int .i64 a0_0) := (za BK128.out 0).trans rfl; have hcz19_1 : w16.cell? ⟨gb128, 1, none⟩ = some (.slice A0_1 l0_1.length c0_1) := (za BK128.out 1).trans rfl; have hfz19_0 := zb BK128.out 0; have hfz19_1 := zb BK128.out 1) | ((with_reducible refine zg (f := 72) rfl ?_); refine zx (some 14) rfl rfl Try.func72 (by kernel_rfl) rfl #[.int .i64 a0_0, .slice A0_1 l0_1.length c0_1] rfl sqM ?_; (with_reducible refine (zC.calls k a0_0 _ _ l0_1 true _ ?side1 ?side2 A3.out).mono ?_); (case side1 => exact Kd.zH HR0_1.out sqB); (case side2 => exact HC0_1.out); rintro e w' ⟨rfl, ⟨nd, rfl⟩⟩; refine ⟨_, rfl, ?_⟩))
   go_ret
   exact ⟨sqE, sqB⟩
 ·replace c4 := Bool.eq_false_iff.mpr c4
  subst c4
  have H1 : (some false) = some r := by rw [if_neg (show ¬ (false = true) by decide)] at H; exact H
  clear H
  have H := H1
  clear H1
  obtain rfl := Option.some.inj H
  go_enter Try.func49, Try.ntmps49
  go_wp2_with (first | ((with_reducible refine zr (N := 1) rfl ?_); (try (refine zP (by rfl) ?_; dsimp only)); refine zq ?hg (N := 1) ?hd (cs := #[.int .i64 a0_0, .slice A0_1 l0_1.length c0_1]) (t := 27) ?hr ?_; (case hd => rfl); (case hg => rfl); (case hr => exact sqG); intro gb128 hg w20 hbox hb; have n0_ := Aside0.mk (ze sqB hb); have n1_ := Aside0.mk (hbox); have n2_ := Aside0.mk ((sqS hg : w.heap.size ≤ gb128)); have n3_ := Aside0.mk ((sqS hg : w.heap.size ≤ gb128)); clear HB; have HB := n0_; have BK128 := n1_; have GW128 := n2_; have GE128 := n3_; clear n0_ n1_ n2_ n3_; clear hb hbox hg; have hcz21_0 : w20.cell? ⟨gb128, 0, none⟩ = some (.int .i64 a0_0) := (za BK128.out 0).trans rfl; have hcz21_1 : w20.cell? ⟨gb128, 1, none⟩ = some (.slice A0_1 l0_1.length c0_1) := (za BK128.out 1).trans rfl; have hfz21_0 := zb BK128.out 0; have hfz21_1 := zb BK128.out 1) | ((with_reducible refine zg (f := 71) rfl ?_); refine zx (some 7) rfl rfl Try.func71 (by kernel_rfl) rfl #[.agg #[.int .i64 a0_0, .slice A0_1 l0_1.length c0_1]] rfl sqM ?_; (with_reducible refine (zk.calls k a0_0 _ _ l0_1 t129 t130 t131 t132 _ ?side1 ?side2 A2.out).mono ?_); (case side1 => exact sqC (Kd.zH HR0_1.out HB.out)); (case side2 => exact HC0_1.out); rintro e w22 ⟨rfl, hb⟩; refine ⟨_, rfl, ?_⟩; have n0_ := Aside0.mk (zd (g := gb128) (o := .cells #[.int .i64 a0_0, .slice A0_1 l0_1.length c0_1] 27 (0, 0)) (sqK BK128.out) hb); have n1_ := Aside0.mk (ze sqB hb); clear BK128; clear HB; have BK128 := n0_; have HB := n1_; clear n0_ n1_; (try clear hb); (try clear hb2); (try clear hk); (try clear hi)) | ((with_reducible refine zr (N := 3) rfl ?_); (try (refine zP (by rfl) ?_; dsimp only)); refine zq ?hg (N := 3) ?hd (cs := #[.int .i64 0, .int .i64 0, .int .i64 0]) (t := 53) ?hr ?_; (case hd => rfl); (case hg => rfl); (case hr => exact sqG); intro gb133 hg w23 hbox hb; have n0_ := Aside0.mk (zd (g := gb128) (o := .cells #[.int .i64 a0_0, .slice A0_1 l0_1.length c0_1] 27 (0, 0)) (sqK BK128.out) hb); have n1_ := Aside0.mk (ze sqB hb); have n2_ := Aside0.mk (hbox); have n3_ := Aside0.mk ((sqS hg : w.heap.size ≤ gb133)); have n4_ := Aside0.mk ((sqS hg : w.heap.size ≤ gb133)); have n5_ := Aside0.mk ((by rw [hg]; exact Nat.ne_of_lt (zR (g := gb128) (o := .cells #[.int .i64 a0_0, .slice A0_1 l0_1.length c0_1] 27 (0, 0)) (sqK BK128.out)) : gb128 ≠ gb133)); have n6_ := Aside0.mk ((by rw [hg]; exact Nat.ne_of_gt (zR (g := gb128) (o := .cells #[.int .i64 a0_0, .slice A0_1 l0_1.length c0_1] 27 (0, 0)) (sqK BK128.out)) : gb133 ≠ gb128)); clear BK128; clear HB; have BK128 := n0_; have HB := n1_; have BK133 := n2_; have GW133 := n3_; have GE133 := n4_; have NB128_133 := n5_; have NB133_128 := n6_; clear n0_ n1_ n2_ n3_ n4_ n5_ n6_; clear hb hbox hg; have hnb24 := NB133_128.out; have hnc24 := NB128_133.out; have hcz25_0 : w23.cell? ⟨gb133, 0, none⟩ = some (.int .i64 0) := (za BK133.out 0).trans rfl; have hcz25_1 : w23.cell? ⟨gb133, 1, none⟩ = some (.int .i64 0) := (za BK133.out 1).trans rfl; have hcz25_2 : w23.cell? ⟨gb133, 2, none⟩ = some (.int .i64 0) := (za BK133.out 2).trans rfl; have hfz25_0 := zb BK133.out 0; have hfz25_1 := zb BK133.out 1; have hfz25_2 := zb BK133.out 2; have hcz26_0 : w23.cell? ⟨gb128, 0, none⟩ = some (.int .i64 a0_0) := (za BK128.out 0).trans rfl; have hcz26_1 : w23.cell? ⟨gb128, 1, none⟩ = some (.slice A0_1 l0_1.length c0_1) := (za BK128.out 1).trans rfl; have hfz26_0 := zb BK128.out 0; have hfz26_1 := zb BK128.out 1) | ((with_reducible refine zg (f := 72) rfl ?_); refine zx (some 14) rfl rfl Try.func72 (by kernel_rfl) rfl #[.int .i64 a0_0, .slice A0_1 l0_1.length c0_1] rfl sqM ?_; (with_reducible refine (zC.calls k a0_0 _ _ l0_1 false _ ?side1 ?side2 A3.out).mono ?_); (case side1 => exact Kd.zH HR0_1.out sqB); (case side2 => exact HC0_1.out); rintro e w' ⟨rfl, ⟨nd, rfl⟩⟩; refine ⟨_, rfl, ?_⟩))
  go_ret
  exact ⟨sqE, sqB⟩

def zw.l0 : Nat → List Int → Int → Int → List Int → Option (List Int)
 | 0, _, _, _, _ => none
 | k + 1, x3, x4, x136000, x136001 => (zz.f x136000).bind fun t140 => (if x4 ≤ t140 then ((z6.f k x136000 x136001 x4).bind fun t141 => (if x3.length < 17592186044416 then (zw.l0 k (x3 ++ [t141]) (wrap64 (x4 + 1)) x136000 x136001) else (none))) else (some x3))
def zw.f (k : Nat) (a0_0 : Int) (l0_1 : List Int) : Option (List Int) := (some (([] : List Int) : List Int)).bind fun y136 => ((qo.f k a0_0 l0_1).bind fun t139 => (if t139 = true then (zw.l0 k y136 0 a0_0 l0_1) else (some y136)))
theorem zw.calls (k : Nat) (a0_0 : Int) (A0_1 : Option Addr) (c0_1 : Nat) (l0_1 : List Int) (r : List Int) (w : World) (hr0_1 : Kd.C (Kd.int .i64) w A0_1 l0_1.length l0_1) (hc0_1 : l0_1.length ≤ c0_1) (h : zw.f k a0_0 l0_1 = some r) :
  Calls Try.prog 19 #[.agg #[.int .i64 a0_0, .slice A0_1 l0_1.length c0_1]] w fun e w' => ∃ v0_ : Value, e = .returned (v0_) ∧ Kd.R (Kd.int .i64) 3 w' w.heap.size (fun _ => True) v0_ r ∧ Below w.heap.size w w' := by
 have hu27 := Try.underlying27
 have HR0_1 := Aside0.mk hr0_1
 have HC0_1 := Aside0.mk hc0_1
 clear hr0_1 hc0_1
 have HB := Aside0.mk (Below.refl w.heap.size w)
 have H : ((some (([] : List Int) : List Int)).bind fun y136 => ((qo.f k a0_0 l0_1).bind fun t139 => (if t139 = true then (zw.l0 k y136 0 a0_0 l0_1) else (some y136)))) = some r := h
 clear h
 obtain ⟨y136, hy136⟩ : ∃ y_ : List Int, y_ = (([] : List Int)) := ⟨_, rfl⟩
 replace H : ((qo.f k a0_0 l0_1).bind fun t139 => (if t139 = true then (zw.l0 k y136 0 a0_0 l0_1) else (some y136))) = some r := by first | (rw [hy136]; with_reducible exact H) | (have H2_ := (Option.bind_some _ _).symm.trans H; rw [hy136]; with_reducible exact H2_) | (have H2_ := (Option.bind_some _ _).symm.trans H; with_reducible exact H2_) | with_reducible exact H | (rw [hy136]; exact H) | exact H
 have Ny136 := Aside0.mk hy136
 clear hy136
 replace H := Option.bind_eq_some_iff.mp H
 obtain ⟨t139, A20, H⟩ := H
 replace H : (if t139 = true then (zw.l0 k y136 0 a0_0 l0_1) else (some y136)) = some r := H
 have A2 := Aside0.mk A20
 clear A20
 by_cases c3 : t139 = true
 ·subst c3
  have H1 : (zw.l0 k y136 0 a0_0 l0_1) = some r := by rw [if_pos rfl] at H; exact H
  clear H
  have H := H1
  clear H1
  have H' := Aside0.mk H
  clear H
  go_enter Try.func19, Try.ntmps19
  go_wp2_with (first | ((with_reducible refine zr (N := 1) rfl ?_); refine zq ?hg (N := 1) ?hd (cs := #[.int .i64 a0_0, .slice A0_1 l0_1.length c0_1]) (t := 27) ?hr ?_; (case hd => rfl); (case hg => rfl); (case hr => exact sqG); intro gb135 hg w4 hbox hb; have n0_ := Aside0.mk (ze sqB hb); have n1_ := Aside0.mk (hbox); have n2_ := Aside0.mk ((sqS hg : w.heap.size ≤ gb135)); have n3_ := Aside0.mk ((sqS hg : w.heap.size ≤ gb135)); clear HB; have HB := n0_; have BK135 := n1_; have GW135 := n2_; have GE135 := n3_; clear n0_ n1_ n2_ n3_; clear hb hbox hg) | ((with_reducible refine zr (N := 5) rfl ?_); refine Kd.yu (Kd.int .i64) _ 3 ?hg (N := 5) ?hd (xs := ([] : List Int)) (inner := []) (ok := fun _ => True) (okp := fun _ => True) ?hr ?hp (fun _ hk => hk) trivial (Below.refl _ _) (Nat.le_refl _) (by simp) ?_; (case hd => rfl); (case hg => rfl); (case hr => exact sqG); (case hp => exact (qm.none _ _)); intro v137 w5 ho6 hb hg_ hnew_; clear hg_ hnew_; (first | rw [← Ny136.out] at ho6 | (simp only [Int.reduceToNat] at ho6; rw [← Ny136.out] at ho6)); have n0_ := Aside0.mk (Kd.qf ho6 (zt sqB)); have n1_ := Aside0.mk (zd (g := gb135) (o := .cells #[.int .i64 a0_0, .slice A0_1 l0_1.length c0_1] 27 (0, 0)) (sqK BK135.out) hb); have n2_ := Aside0.mk (ze sqB hb); clear BK135; clear HB; have HO138 := n0_; have BK135 := n1_; have HB := n2_; clear n0_ n1_ n2_; clear hb ho6; have hcz7_0 : w5.cell? ⟨gb135, 0, none⟩ = some (.int .i64 a0_0) := (za BK135.out 0).trans rfl; have hcz7_1 : w5.cell? ⟨gb135, 1, none⟩ = some (.slice A0_1 l0_1.length c0_1) := (za BK135.out 1).trans rfl; have hfz7_0 := zb BK135.out 0; have hfz7_1 := zb BK135.out 1) | ((with_reducible refine zg (f := 49) rfl ?_); refine zx (some 7) rfl rfl Try.func49 (by kernel_rfl) rfl #[.agg #[.int .i64 a0_0, .slice A0_1 l0_1.length c0_1]] rfl sqM ?_; (with_reducible refine (qo.calls k a0_0 _ _ l0_1 true _ ?side1 ?side2 A2.out).mono ?_); (case side1 => exact sqC (Kd.zH HR0_1.out HB.out)); (case side2 => exact HC0_1.out); rintro e w8 ⟨rfl, hb⟩; refine ⟨_, rfl, ?_⟩; have n0_ := Aside0.mk (Kd.zJ (sqR HO138.out) hb); have n1_ := Aside0.mk (zd (g := gb135) (o := .cells #[.int .i64 a0_0, .slice A0_1 l0_1.length c0_1] 27 (0, 0)) (sqK BK135.out) hb); have n2_ := Aside0.mk (ze sqB hb); clear HO138; clear BK135; clear HB; have HO138 := n0_; have BK135 := n1_; have HB := n2_; clear n0_ n1_ n2_; (try clear hb); (try clear hb2); (try clear hk); (try clear hi)))
  go_loopg [3, 4] k (fun kq v3 v4 w' => ∃ (x3_1 : List Int) (x4_1 : Int), v4 = .int .i64 x4_1 ∧ Aside0 (zw.l0 kq x3_1 x4_1 a0_0 l0_1 = some r) ∧ Aside0 (kq ≤ k) ∧ Aside0 (Kd.R (Kd.int .i64) 3 w' w.heap.size (fun _ => True) v3 x3_1) ∧ Aside0 (w'.heap[gb135]? = some (.cells #[.int .i64 a0_0, (.slice A0_1 l0_1.length c0_1)] 27 (0, 0))) ∧ Aside0 (Below w.heap.size w w'))
  case atStart => exact ⟨(y136), (0), (sqD), H', ⟨Nat.le_refl _⟩, ⟨sqR HO138.out⟩, ⟨sqK BK135.out⟩, ⟨sqB⟩⟩
  case round =>
   clear H'
   try clear c1
   try clear p2
   try clear c3
   try clear c4
   try clear hcz7_0
   try clear hcz7_1
   try clear hfz7_0
   try clear hfz7_1
   obtain ⟨x3_1, x4_1, rfl, HA, HK1, HO_3, BK135, HB⟩ := hrel
   cases gk with
   | zero => exact absurd HA.out (by simp [zw.l0])
   | succ k1 =>
    have H := HA.out
    clear HA
    simp only [zw.l0] at H
    replace H := Option.bind_eq_some_iff.mp H
    obtain ⟨t140, A90, H⟩ := H
    replace H : (if x4_1 ≤ t140 then ((z6.f k1 a0_0 l0_1 x4_1).bind fun t141 => (if x3_1.length < 17592186044416 then (zw.l0 k1 (x3_1 ++ [t141]) (wrap64 (x4_1 + 1)) a0_0 l0_1) else (none))) else (some x3_1)) = some r := H
    have A9 := Aside0.mk A90
    clear A90
    by_cases c10 : x4_1 ≤ t140
    ·rw [if_pos c10] at H
     have c10b0 : decide (x4_1 ≤ t140) = true := decide_eq_true c10
     clear c10
     replace H := Option.bind_eq_some_iff.mp H
     obtain ⟨t141, A110, H⟩ := H
     replace H : (if x3_1.length < 17592186044416 then (zw.l0 k1 (x3_1 ++ [t141]) (wrap64 (x4_1 + 1)) a0_0 l0_1) else (none)) = some r := H
     have A11 := Aside0.mk A110
     clear A110
     by_cases c12 : x3_1.length < 17592186044416
     ·rw [if_pos c12] at H
      have LMc12 := Aside0.mk c12
      clear c12
      obtain ⟨y142, hy142⟩ : ∃ y_ : List Int, y_ = (x3_1 ++ [t141]) := ⟨_, rfl⟩
      replace H : (zw.l0 k1 y142 (wrap64 (x4_1 + 1)) a0_0 l0_1) = some r := by first | (rw [hy142]; with_reducible exact H) | (have H2_ := (Option.bind_some _ _).symm.trans H; rw [hy142]; with_reducible exact H2_) | (have H2_ := (Option.bind_some _ _).symm.trans H; with_reducible exact H2_) | with_reducible exact H | (rw [hy142]; exact H) | exact H
      have Ny142 := Aside0.mk hy142
      clear hy142
      have H' := Aside0.mk H
      clear H
      have hcz13_0 : wr.cell? ⟨gb135, 0, none⟩ = some (.int .i64 a0_0) := (za BK135.out 0).trans rfl
      have hcz13_1 : wr.cell? ⟨gb135, 1, none⟩ = some (.slice A0_1 l0_1.length c0_1) := (za BK135.out 1).trans rfl
      have hfz13_0 := zb BK135.out 0; have hfz13_1 := zb BK135.out 1
      go_wp2_with (first | ((with_reducible refine zg (f := 43) rfl ?_); refine zx (some 13) rfl rfl Try.func43 (by kernel_rfl) rfl #[.int .i64 a0_0] rfl sqM ?_; (with_reducible refine (zz.calls a0_0 t140 _ A9.out).mono ?_); rintro e w' ⟨rfl, ⟨nd, rfl⟩⟩; refine ⟨_, rfl, ?_⟩) | ((with_reducible refine zg (f := 42) rfl ?_); refine zx (some 20) rfl rfl Try.func42 (by kernel_rfl) rfl #[.agg #[.int .i64 a0_0, .slice A0_1 l0_1.length c0_1], .int .i64 x4_1] rfl sqM ?_; (with_reducible refine (z6.calls k1 a0_0 _ _ l0_1 x4_1 t141 _ ?side1 ?side2 A11.out).mono ?_); (case side1 => exact sqC (Kd.zH HR0_1.out sqB)); (case side2 => exact HC0_1.out); rintro e w14 ⟨rfl, hb⟩; refine ⟨_, rfl, ?_⟩; have n0_ := Aside0.mk (Kd.zJ (sqR HO_3.out) hb); have n1_ := Aside0.mk (zd (g := gb135) (o := .cells #[.int .i64 a0_0, .slice A0_1 l0_1.length c0_1] 27 (0, 0)) (sqK BK135.out) hb); have n2_ := Aside0.mk (ze sqB hb); clear HO_3; clear BK135; clear HB; have HO_3 := n0_; have BK135 := n1_; have HB := n2_; clear n0_ n1_ n2_; (try clear hb); (try clear hb2); (try clear hk); (try clear hi)) | ((with_reducible refine qK (b := .append) (xs := #[.tmp 17, .tmp 21]) rfl ?_); at_builtin; refine Kd.js (Kd.int .i64) (w0 := w) w.heap.size rfl (.tmp 17) (.tmp 21) 22 3 (.int .i64 0) 8 rfl Try.underlying22 vJ rfl (by decide) (by omega) u3 x3_1 t141 [.int .i64 t141] (fun _ => True) (fun _ => False) rfl rfl ?aP (fun _ hk => hk.elim) ?aF ?aO ?aB ?aS ?aL ?_; (case aP => exact rfl); (case aB => exact sqB); (case aF => exact (fun _ _ => trivial)); (case aO => exact (sqR HO_3.out)); (case aS => exact (zt sqB)); (case aL => have := LMc12.out; omega); intro v143 w15 ho hb hg hat; rw [← Ny142.out] at ho; have n0_ := Aside0.mk (qU (g := gb135) (o := .cells #[.int .i64 a0_0, .slice A0_1 l0_1.length c0_1] 27 (0, 0)) (sqK BK135.out) hg (Kd.vG HO_3.out BK135.out (by decide))); have n1_ := Aside0.mk (hb); have n2_ := Aside0.mk (ho); clear BK135; clear HB; clear HO_3; have BK135 := n0_; have HB := n1_; have HO144 := n2_; clear n0_ n1_ n2_; clear ho hb hg hat))
      go_roundg k1
      case measure => have := HK1.out; omega
      case rel => exact ⟨(y142), (wrap64 (x4_1 + 1)), (sqD), H', ⟨by have := HK1.out; omega⟩, ⟨sqR HO144.out⟩, ⟨sqK BK135.out⟩, ⟨sqB⟩⟩
     ·rw [if_neg c12] at H
      exact absurd H (by simp)
    ·rw [if_neg c10] at H
     have c10b0 : decide (x4_1 ≤ t140) = false := decide_eq_false c10
     clear c10
     obtain rfl := Option.some.inj H
     have hcz16_0 : wr.cell? ⟨gb135, 0, none⟩ = some (.int .i64 a0_0) := (za BK135.out 0).trans rfl
     have hcz16_1 : wr.cell? ⟨gb135, 1, none⟩ = some (.slice A0_1 l0_1.length c0_1) := (za BK135.out 1).trans rfl
     have hfz16_0 := zb BK135.out 0; have hfz16_1 := zb BK135.out 1
     go_wp2_with (first | ((with_reducible refine zg (f := 43) rfl ?_); refine zx (some 13) rfl rfl Try.func43 (by kernel_rfl) rfl #[.int .i64 a0_0] rfl sqM ?_; (with_reducible refine (zz.calls a0_0 t140 _ A9.out).mono ?_); rintro e w' ⟨rfl, ⟨nd, rfl⟩⟩; refine ⟨_, rfl, ?_⟩))
     go_ret
     exact ⟨_, sqE, sqR HO_3.out, sqB⟩
 ·replace c3 := Bool.eq_false_iff.mpr c3
  subst c3
  have H1 : (some y136) = some r := by rw [if_neg (show ¬ (false = true) by decide)] at H; exact H
  clear H
  have H := H1
  clear H1
  obtain rfl := Option.some.inj H
  go_enter Try.func19, Try.ntmps19
  go_wp2_with (first | ((with_reducible refine zr (N := 1) rfl ?_); refine zq ?hg (N := 1) ?hd (cs := #[.int .i64 a0_0, .slice A0_1 l0_1.length c0_1]) (t := 27) ?hr ?_; (case hd => rfl); (case hg => rfl); (case hr => exact sqG); intro gb135 hg w17 hbox hb; have n0_ := Aside0.mk (ze sqB hb); have n1_ := Aside0.mk (hbox); have n2_ := Aside0.mk ((sqS hg : w.heap.size ≤ gb135)); have n3_ := Aside0.mk ((sqS hg : w.heap.size ≤ gb135)); clear HB; have HB := n0_; have BK135 := n1_; have GW135 := n2_; have GE135 := n3_; clear n0_ n1_ n2_ n3_; clear hb hbox hg) | ((with_reducible refine zr (N := 5) rfl ?_); refine Kd.yu (Kd.int .i64) _ 3 ?hg (N := 5) ?hd (xs := ([] : List Int)) (inner := []) (ok := fun _ => True) (okp := fun _ => True) ?hr ?hp (fun _ hk => hk) trivial (Below.refl _ _) (Nat.le_refl _) (by simp) ?_; (case hd => rfl); (case hg => rfl); (case hr => exact sqG); (case hp => exact (qm.none _ _)); intro v137 w18 ho19 hb hg_ hnew_; clear hg_ hnew_; (first | rw [← Ny136.out] at ho19 | (simp only [Int.reduceToNat] at ho19; rw [← Ny136.out] at ho19)); have n0_ := Aside0.mk (Kd.qf ho19 (zt sqB)); have n1_ := Aside0.mk (zd (g := gb135) (o := .cells #[.int .i64 a0_0, .slice A0_1 l0_1.length c0_1] 27 (0, 0)) (sqK BK135.out) hb); have n2_ := Aside0.mk (ze sqB hb); clear BK135; clear HB; have HO138 := n0_; have BK135 := n1_; have HB := n2_; clear n0_ n1_ n2_; clear hb ho19; have hcz20_0 : w18.cell? ⟨gb135, 0, none⟩ = some (.int .i64 a0_0) := (za BK135.out 0).trans rfl; have hcz20_1 : w18.cell? ⟨gb135, 1, none⟩ = some (.slice A0_1 l0_1.length c0_1) := (za BK135.out 1).trans rfl; have hfz20_0 := zb BK135.out 0; have hfz20_1 := zb BK135.out 1) | ((with_reducible refine zg (f := 49) rfl ?_); refine zx (some 7) rfl rfl Try.func49 (by kernel_rfl) rfl #[.agg #[.int .i64 a0_0, .slice A0_1 l0_1.length c0_1]] rfl sqM ?_; (with_reducible refine (qo.calls k a0_0 _ _ l0_1 false _ ?side1 ?side2 A2.out).mono ?_); (case side1 => exact sqC (Kd.zH HR0_1.out HB.out)); (case side2 => exact HC0_1.out); rintro e w21 ⟨rfl, hb⟩; refine ⟨_, rfl, ?_⟩; have n0_ := Aside0.mk (Kd.zJ (sqR HO138.out) hb); have n1_ := Aside0.mk (zd (g := gb135) (o := .cells #[.int .i64 a0_0, .slice A0_1 l0_1.length c0_1] 27 (0, 0)) (sqK BK135.out) hb); have n2_ := Aside0.mk (ze sqB hb); clear HO138; clear BK135; clear HB; have HO138 := n0_; have BK135 := n1_; have HB := n2_; clear n0_ n1_ n2_; (try clear hb); (try clear hb2); (try clear hk); (try clear hi)))
  go_ret
  exact ⟨_, sqE, sqR HO138.out, sqB⟩

mutual
def zj.j0 : Nat → Int → List Int → Bool → Option (Int × List Int × Bool)
 | 0, _, _, _ => none
 | k + 1, x0, x1, x18 => if x18 = true then (some (0, ([] : List Int), false)) else (zj.l0 k x0 x1 0 x0 ([] : List Int))
def zj.l0 : Nat → Int → List Int → Int → Int → List Int → Option (Int × List Int × Bool)
 | 0, _, _, _, _, _ => none
 | k + 1, x0, x1, x7, x151000, x151001 => (zz.f x0).bind fun t151 => (if x7 ≤ t151 then (if 0 ≤ x7 then (if x7 < (x1.length : Int) then ((zF.f k x7).bind fun t153 => (if (rd x1 x7) = t153 then ((zz.f x0).bind fun t155 => (if 0 ≤ t155 then (if t155 < (x1.length : Int) then (if (rd x1 x7) = (rd x1 t155) then (if x151001.length < 17592186044416 then (zj.l0 k x0 x1 (wrap64 (x7 + 1)) x151000 (x151001 ++ [x7])) else (none)) else (zj.l0 k x0 x1 (wrap64 (x7 + 1)) x151000 x151001)) else (none)) else (none))) else (zj.l0 k x0 x1 (wrap64 (x7 + 1)) x151000 x151001))) else (none)) else (none)) else ((zw.f k x151000 x151001).bind fun t160 => ((zV.f k t160 x1).bind fun t163 => (if t163 = true then (some (x151000, x151001, true)) else (some (0, ([] : List Int), false))))))
end
def zj.f (k : Nat) (a0 : Int) (l1 : List Int) : Option (Int × List Int × Bool) := (zS.f a0 0 8).bind fun t148 => (if t148 = true then ((zz.f a0).bind fun t149 => (zj.j0 k a0 l1 ((l1.length : Int) != (wrap64 (t149 + 1))))) else (zj.j0 k a0 l1 true))
theorem zj.calls (k : Nat) (a0 : Int) (A1 : Option Addr) (c1 : Nat) (l1 : List Int) (r1 : Int) (r2 : List Int) (r3 : Bool) (w : World) (hr1 : Kd.C (Kd.int .i64) w A1 l1.length l1) (hc1 : l1.length ≤ c1) (h : zj.f k a0 l1 = some (r1, r2, r3)) :
  Calls Try.prog 29 #[.int .i64 a0, .slice A1 l1.length c1] w fun e w' => ∃ v1_ : Value, e = .returned (.tuple #[.agg #[.int .i64 r1, v1_], .bool r3]) ∧ Kd.R (Kd.int .i64) 3 w' w.heap.size (fun _ => True) v1_ r2 ∧ Below w.heap.size w w' := by
 have hu27 := Try.underlying27
 have HR1 := Aside0.mk hr1
 have HC1 := Aside0.mk hc1
 clear hr1 hc1
 have HB := Aside0.mk (Below.refl w.heap.size w)
 have H : ((zS.f a0 0 8).bind fun t148 => (if t148 = true then ((zz.f a0).bind fun t149 => (zj.j0 k a0 l1 ((l1.length : Int) != (wrap64 (t149 + 1))))) else (zj.j0 k a0 l1 true))) = some (r1, r2, r3) := h
 clear h
 have HC3 := Aside0.mk H
 clear H
 go_enter Try.func29, Try.ntmps29
 go_upto_region 1 with (first | ((with_reducible refine zr (N := 4) rfl ?_); (try (refine zP (by rfl) ?_; dsimp only)); refine zq ?hg (N := 4) ?hd (cs := #[.int .i64 0, .slice none 0 0]) (t := 27) ?hr ?_; (case hd => rfl); (case hg => rfl); (case hr => exact sqG); intro gb147 hg w4 hbox hb; have n0_ := Aside0.mk (ze sqB hb); have n1_ := Aside0.mk (hbox); have n2_ := Aside0.mk ((sqS hg : w.heap.size ≤ gb147)); have n3_ := Aside0.mk ((sqS hg : w.heap.size ≤ gb147)); clear HB; have HB := n0_; have BK147 := n1_; have GW147 := n2_; have GE147 := n3_; clear n0_ n1_ n2_ n3_; clear hb hbox hg))
 repeat (go_quiet (first | ((with_reducible refine zr (N := 4) rfl ?_); (try (refine zP (by rfl) ?_; dsimp only)); refine zq ?hg (N := 4) ?hd (cs := #[.int .i64 0, .slice none 0 0]) (t := 27) ?hr ?_; (case hd => rfl); (case hg => rfl); (case hr => exact sqG); intro gb147 hg w4 hbox hb; have n0_ := Aside0.mk (ze sqB hb); have n1_ := Aside0.mk (hbox); have n2_ := Aside0.mk ((sqS hg : w.heap.size ≤ gb147)); have n3_ := Aside0.mk ((sqS hg : w.heap.size ≤ gb147)); clear HB; have HB := n0_; have BK147 := n1_; have GW147 := n2_; have GE147 := n3_; clear n0_ n1_ n2_ n3_; clear hb hbox hg)); go_upto_region 1 with (first | ((with_reducible refine zr (N := 4) rfl ?_); (try (refine zP (by rfl) ?_; dsimp only)); refine zq ?hg (N := 4) ?hd (cs := #[.int .i64 0, .slice none 0 0]) (t := 27) ?hr ?_; (case hd => rfl); (case hg => rfl); (case hr => exact sqG); intro gb147 hg w4 hbox hb; have n0_ := Aside0.mk (ze sqB hb); have n1_ := Aside0.mk (hbox); have n2_ := Aside0.mk ((sqS hg : w.heap.size ≤ gb147)); have n3_ := Aside0.mk ((sqS hg : w.heap.size ≤ gb147)); clear HB; have HB := n0_; have BK147 := n1_; have GW147 := n2_; have GE147 := n3_; clear n0_ n1_ n2_ n3_; clear hb hbox hg)))
 (try simp only [Act.put, List.setIfInBounds_toArray, List.set_cons_zero, List.set_cons_succ])
 go_cut [18] (fun v18 wc => ∃ (kq : Nat) (x18_2 : Bool), v18 = .bool x18_2 ∧ Aside0 (zj.j0 kq a0 l1 x18_2 = some (r1, r2, r3)) ∧ Aside0 (kq ≤ k) ∧ Aside0 (wc.heap[gb147]? = some (.cells #[.int .i64 0, (.slice none 0 0)] 27 (0, 0))) ∧ Aside0 (Below w.heap.size w wc))
 case first =>
  have H := HC3.out
  clear HC3
  replace H := Option.bind_eq_some_iff.mp H
  obtain ⟨t148, A50, H⟩ := H
  replace H : (if t148 = true then ((zz.f a0).bind fun t149 => (zj.j0 k a0 l1 ((l1.length : Int) != (wrap64 (t149 + 1))))) else (zj.j0 k a0 l1 true)) = some (r1, r2, r3) := H
  have A5 := Aside0.mk A50
  clear A50
  by_cases c6 : t148 = true
  ·subst c6
   have H1 : ((zz.f a0).bind fun t149 => (zj.j0 k a0 l1 ((l1.length : Int) != (wrap64 (t149 + 1))))) = some (r1, r2, r3) := by rw [if_pos rfl] at H; exact H
   clear H
   have H := H1
   clear H1
   replace H := Option.bind_eq_some_iff.mp H
   obtain ⟨t149, A70, H⟩ := H
   replace H : (zj.j0 k a0 l1 ((l1.length : Int) != (wrap64 (t149 + 1)))) = some (r1, r2, r3) := H
   have A7 := Aside0.mk A70
   clear A70
   have H' := Aside0.mk H
   clear H
   go_wp2_with (first | (go_at_call 54; (try simp only [zl, zo]); (with_reducible refine (zS.calls a0 0 8 true _ A5.out).mono ?_); rintro e w' ⟨rfl, ⟨nd, rfl⟩⟩; (try first | exact ⟨rfl, _, World.drewN_drewN _ _ _⟩ | exact ⟨rfl, _, Eq.trans (World.drewN_drewN _ _ _) (congrArg (World.drewN _) (Nat.add_assoc _ _ _))⟩)) | (go_at_call 43; (try simp only [zl, zo]); (with_reducible refine (zz.calls a0 t149 _ A7.out).mono ?_); rintro e w' ⟨rfl, ⟨nd, rfl⟩⟩; (try first | exact ⟨rfl, _, World.drewN_drewN _ _ _⟩ | exact ⟨rfl, _, Eq.trans (World.drewN_drewN _ _ _) (congrArg (World.drewN _) (Nat.add_assoc _ _ _))⟩)))
   repeat (go_quiet (first | (go_at_call 54; (try simp only [zl, zo]); (with_reducible refine (zS.calls a0 0 8 true _ A5.out).mono ?_); rintro e w' ⟨rfl, ⟨nd, rfl⟩⟩; (try first | exact ⟨rfl, _, World.drewN_drewN _ _ _⟩ | exact ⟨rfl, _, Eq.trans (World.drewN_drewN _ _ _) (congrArg (World.drewN _) (Nat.add_assoc _ _ _))⟩)) | (go_at_call 43; (try simp only [zl, zo]); (with_reducible refine (zz.calls a0 t149 _ A7.out).mono ?_); rintro e w' ⟨rfl, ⟨nd, rfl⟩⟩; (try first | exact ⟨rfl, _, World.drewN_drewN _ _ _⟩ | exact ⟨rfl, _, Eq.trans (World.drewN_drewN _ _ _) (congrArg (World.drewN _) (Nat.add_assoc _ _ _))⟩))); try go_wp2_with (first | (go_at_call 54; (try simp only [zl, zo]); (with_reducible refine (zS.calls a0 0 8 true _ A5.out).mono ?_); rintro e w' ⟨rfl, ⟨nd, rfl⟩⟩; (try first | exact ⟨rfl, _, World.drewN_drewN _ _ _⟩ | exact ⟨rfl, _, Eq.trans (World.drewN_drewN _ _ _) (congrArg (World.drewN _) (Nat.add_assoc _ _ _))⟩)) | (go_at_call 43; (try simp only [zl, zo]); (with_reducible refine (zz.calls a0 t149 _ A7.out).mono ?_); rintro e w' ⟨rfl, ⟨nd, rfl⟩⟩; (try first | exact ⟨rfl, _, World.drewN_drewN _ _ _⟩ | exact ⟨rfl, _, Eq.trans (World.drewN_drewN _ _ _) (congrArg (World.drewN _) (Nat.add_assoc _ _ _))⟩))))
   go_meet
   case rel => exact ⟨_, (((l1.length : Int) != (wrap64 (t149 + 1)))), (by first | rfl | (simp only [zl, zo]; done) | (simp; done) | (simp [*]; done)), H', ⟨by first | omega | exact Nat.le_refl _⟩, ⟨sqK BK147.out⟩, ⟨sqB⟩⟩
  ·replace c6 := Bool.eq_false_iff.mpr c6
   subst c6
   have H1 : (zj.j0 k a0 l1 true) = some (r1, r2, r3) := by rw [if_neg (show ¬ (false = true) by decide)] at H; exact H
   clear H
   have H := H1
   clear H1
   have H' := Aside0.mk H
   clear H
   go_wp2_with (first | (go_at_call 54; (try simp only [zl, zo]); (with_reducible refine (zS.calls a0 0 8 false _ A5.out).mono ?_); rintro e w' ⟨rfl, ⟨nd, rfl⟩⟩; (try first | exact ⟨rfl, _, World.drewN_drewN _ _ _⟩ | exact ⟨rfl, _, Eq.trans (World.drewN_drewN _ _ _) (congrArg (World.drewN _) (Nat.add_assoc _ _ _))⟩)))
   repeat (go_quiet (first | (go_at_call 54; (try simp only [zl, zo]); (with_reducible refine (zS.calls a0 0 8 false _ A5.out).mono ?_); rintro e w' ⟨rfl, ⟨nd, rfl⟩⟩; (try first | exact ⟨rfl, _, World.drewN_drewN _ _ _⟩ | exact ⟨rfl, _, Eq.trans (World.drewN_drewN _ _ _) (congrArg (World.drewN _) (Nat.add_assoc _ _ _))⟩))); try go_wp2_with (first | (go_at_call 54; (try simp only [zl, zo]); (with_reducible refine (zS.calls a0 0 8 false _ A5.out).mono ?_); rintro e w' ⟨rfl, ⟨nd, rfl⟩⟩; (try first | exact ⟨rfl, _, World.drewN_drewN _ _ _⟩ | exact ⟨rfl, _, Eq.trans (World.drewN_drewN _ _ _) (congrArg (World.drewN _) (Nat.add_assoc _ _ _))⟩))))
   go_meet
   case rel => exact ⟨_, (true), (sqD), H', ⟨by first | omega | exact Nat.le_refl _⟩, ⟨sqK BK147.out⟩, ⟨sqB⟩⟩
 case rest =>
  clear HC3
  try clear c1
  try clear c2
  try clear p2
  try clear c6
  try clear p6
  obtain ⟨kq, x18_2, rfl, HA, HJ2, BK147, HB⟩ := hcut
  cases kq with
  | zero => exact absurd HA.out (by simp [zj.j0])
  | succ kj2 =>
   have H := HA.out
   clear HA
   simp only [zj.j0] at H
   by_cases c8 : x18_2 = true
   ·subst c8
    have H1 : (some (0, ([] : List Int), false)) = some (r1, r2, r3) := by rw [if_pos rfl] at H; exact H
    clear H
    have H := H1
    clear H1
    simp only [Option.some.injEq, Prod.mk.injEq] at H
    obtain ⟨rfl, rfl, rfl⟩ := H
    have hcz9_0 : wc.cell? ⟨gb147, 0, none⟩ = some (.int .i64 0) := (za BK147.out 0).trans rfl
    have hcz9_1 : wc.cell? ⟨gb147, 1, none⟩ = some (.slice none 0 0) := (za BK147.out 1).trans rfl
    have hfz9_0 := zb BK147.out 0; have hfz9_1 := zb BK147.out 1
    go_wp2
    repeat (go_quiet (fail); try go_wp2)
    refine bodyPost_ret (qq rfl _ _ gb147 27 #[.int .i64 0, .slice none 0 0] (0, 0) _ rfl (by refine sqK ?_; refine zM (cs := #[.int .i64 0, .slice none 0 0]) ?_ 1 _ rfl; refine sqK ?_; refine zM (cs := #[.int .i64 0, .slice none 0 0]) ?_ 0 _ rfl; refine sqK ?_; exact BK147.out) Try.underlying27 rfl (by kernel_rfl)) rfl ?_
    exact ⟨_, sqE, sqN, sqB⟩
   ·replace c8 := Bool.eq_false_iff.mpr c8
    subst c8
    have H1 : (zj.l0 kj2 a0 l1 0 a0 ([] : List Int)) = some (r1, r2, r3) := by rw [if_neg (show ¬ (false = true) by decide)] at H; exact H
    clear H
    have H := H1
    clear H1
    have H' := Aside0.mk H
    clear H
    go_wp2_with (first | ((with_reducible refine zr (N := 6) rfl ?_); (try (refine zP (by rfl) ?_; dsimp only)); refine zq ?hg (N := 6) ?hd (cs := #[.int .i64 0, .slice none 0 0]) (t := 27) ?hr ?_; (case hd => rfl); (case hg => rfl); (case hr => exact sqG); intro gb150 hg w10 hbox hb; have n0_ := Aside0.mk (zd (g := gb147) (o := .cells #[.int .i64 0, .slice none 0 0] 27 (0, 0)) (sqK BK147.out) hb); have n1_ := Aside0.mk (ze sqB hb); have n2_ := Aside0.mk (hbox); have n3_ := Aside0.mk ((sqS hg : w.heap.size ≤ gb150)); have n4_ := Aside0.mk ((sqS hg : w.heap.size ≤ gb150)); have n5_ := Aside0.mk ((by rw [hg]; exact Nat.ne_of_lt (zR (g := gb147) (o := .cells #[.int .i64 0, .slice none 0 0] 27 (0, 0)) (sqK BK147.out)) : gb147 ≠ gb150)); have n6_ := Aside0.mk ((by rw [hg]; exact Nat.ne_of_gt (zR (g := gb147) (o := .cells #[.int .i64 0, .slice none 0 0] 27 (0, 0)) (sqK BK147.out)) : gb150 ≠ gb147)); clear BK147; clear HB; have BK147 := n0_; have HB := n1_; have BK150 := n2_; have GW150 := n3_; have GE150 := n4_; have NB147_150 := n5_; have NB150_147 := n6_; clear n0_ n1_ n2_ n3_ n4_ n5_ n6_; clear hb hbox hg; have hnb11 := NB150_147.out; have hnc11 := NB147_150.out; have hcz12_0 : w10.cell? ⟨gb150, 0, none⟩ = some (.int .i64 0) := (za BK150.out 0).trans rfl; have hcz12_1 : w10.cell? ⟨gb150, 1, none⟩ = some (.slice none 0 0) := (za BK150.out 1).trans rfl; have hfz12_0 := zb BK150.out 0; have hfz12_1 := zb BK150.out 1))
    repeat (go_quiet (first | ((with_reducible refine zr (N := 6) rfl ?_); (try (refine zP (by rfl) ?_; dsimp only)); refine zq ?hg (N := 6) ?hd (cs := #[.int .i64 0, .slice none 0 0]) (t := 27) ?hr ?_; (case hd => rfl); (case hg => rfl); (case hr => exact sqG); intro gb150 hg w10 hbox hb; have n0_ := Aside0.mk (zd (g := gb147) (o := .cells #[.int .i64 0, .slice none 0 0] 27 (0, 0)) (sqK BK147.out) hb); have n1_ := Aside0.mk (ze sqB hb); have n2_ := Aside0.mk (hbox); have n3_ := Aside0.mk ((sqS hg : w.heap.size ≤ gb150)); have n4_ := Aside0.mk ((sqS hg : w.heap.size ≤ gb150)); have n5_ := Aside0.mk ((by rw [hg]; exact Nat.ne_of_lt (zR (g := gb147) (o := .cells #[.int .i64 0, .slice none 0 0] 27 (0, 0)) (sqK BK147.out)) : gb147 ≠ gb150)); have n6_ := Aside0.mk ((by rw [hg]; exact Nat.ne_of_gt (zR (g := gb147) (o := .cells #[.int .i64 0, .slice none 0 0] 27 (0, 0)) (sqK BK147.out)) : gb150 ≠ gb147)); clear BK147; clear HB; have BK147 := n0_; have HB := n1_; have BK150 := n2_; have GW150 := n3_; have GE150 := n4_; have NB147_150 := n5_; have NB150_147 := n6_; clear n0_ n1_ n2_ n3_ n4_ n5_ n6_; clear hb hbox hg; have hnb11 := NB150_147.out; have hnc11 := NB147_150.out; have hcz12_0 : w10.cell? ⟨gb150, 0, none⟩ = some (.int .i64 0) := (za BK150.out 0).trans rfl; have hcz12_1 : w10.cell? ⟨gb150, 1, none⟩ = some (.slice none 0 0) := (za BK150.out 1).trans rfl; have hfz12_0 := zb BK150.out 0; have hfz12_1 := zb BK150.out 1)); try go_wp2_with (first | ((with_reducible refine zr (N := 6) rfl ?_); (try (refine zP (by rfl) ?_; dsimp only)); refine zq ?hg (N := 6) ?hd (cs := #[.int .i64 0, .slice none 0 0]) (t := 27) ?hr ?_; (case hd => rfl); (case hg => rfl); (case hr => exact sqG); intro gb150 hg w10 hbox hb; have n0_ := Aside0.mk (zd (g := gb147) (o := .cells #[.int .i64 0, .slice none 0 0] 27 (0, 0)) (sqK BK147.out) hb); have n1_ := Aside0.mk (ze sqB hb); have n2_ := Aside0.mk (hbox); have n3_ := Aside0.mk ((sqS hg : w.heap.size ≤ gb150)); have n4_ := Aside0.mk ((sqS hg : w.heap.size ≤ gb150)); have n5_ := Aside0.mk ((by rw [hg]; exact Nat.ne_of_lt (zR (g := gb147) (o := .cells #[.int .i64 0, .slice none 0 0] 27 (0, 0)) (sqK BK147.out)) : gb147 ≠ gb150)); have n6_ := Aside0.mk ((by rw [hg]; exact Nat.ne_of_gt (zR (g := gb147) (o := .cells #[.int .i64 0, .slice none 0 0] 27 (0, 0)) (sqK BK147.out)) : gb150 ≠ gb147)); clear BK147; clear HB; have BK147 := n0_; have HB := n1_; have BK150 := n2_; have GW150 := n3_; have GE150 := n4_; have NB147_150 := n5_; have NB150_147 := n6_; clear n0_ n1_ n2_ n3_ n4_ n5_ n6_; clear hb hbox hg; have hnb11 := NB150_147.out; have hnc11 := NB147_150.out; have hcz12_0 : w10.cell? ⟨gb150, 0, none⟩ = some (.int .i64 0) := (za BK150.out 0).trans rfl; have hcz12_1 : w10.cell? ⟨gb150, 1, none⟩ = some (.slice none 0 0) := (za BK150.out 1).trans rfl; have hfz12_0 := zb BK150.out 0; have hfz12_1 := zb BK150.out 1)))
    go_loopg [7] kj2 (fun kq v7 w' => ∃ (x7_2 : Int) (x151001_2 : List Int) (u151001 : Value), v7 = .int .i64 x7_2 ∧ Aside0 (zj.l0 kq a0 l1 x7_2 a0 x151001_2 = some (r1, r2, r3)) ∧ Aside0 (kq ≤ kj2) ∧ Aside0 (Kd.R (Kd.int .i64) 3 w' w.heap.size (fun _ => True) u151001 x151001_2) ∧ Aside0 (w'.heap[gb147]? = some (.cells #[.int .i64 0, (.slice none 0 0)] 27 (0, 0))) ∧ Aside0 (w'.heap[gb150]? = some (.cells #[.int .i64 a0, u151001] 27 (0, 0))) ∧ Aside0 (Below w.heap.size w w'))
    case atStart => exact ⟨(0), (([] : List Int)), (.slice none 0 0), (sqD), H', ⟨Nat.le_refl _⟩, ⟨sqN⟩, ⟨by refine sqK ?_; refine qn ?_ NB147_150.out _; refine sqK ?_; refine qn ?_ NB147_150.out _; refine sqK ?_; exact BK147.out⟩, ⟨by refine sqK ?_; refine zM (cs := #[.int .i64 a0, .slice none 0 0]) ?_ 1 _ rfl; refine sqK ?_; refine zM (cs := #[.int .i64 0, .slice none 0 0]) ?_ 0 _ rfl; refine sqK ?_; exact BK150.out⟩, ⟨sqB⟩⟩
    case round =>
     clear H'
     try clear c1
     try clear c2
     try clear p2
     try clear c6
     try clear p6
     try clear c8
     try clear c11
     try clear hcz12_0
     try clear hcz12_1
     try clear hcz9_0
     try clear hcz9_1
     try clear hfz12_0
     try clear hfz12_1
     try clear hfz9_0
     try clear hfz9_1
     try clear p2
     try clear p6
     obtain ⟨x7_2, x151001_2, u151001, rfl, HA, HK2, HO_151001, BK147, BK150, HB⟩ := hrel
     cases gk with
     | zero => exact absurd HA.out (by simp [zj.l0])
     | succ k2 =>
      have H := HA.out
      clear HA
      simp only [zj.l0] at H
      replace H := Option.bind_eq_some_iff.mp H
      obtain ⟨t151, A130, H⟩ := H
      replace H : (if x7_2 ≤ t151 then (if 0 ≤ x7_2 then (if x7_2 < (l1.length : Int) then ((zF.f k2 x7_2).bind fun t153 => (if (rd l1 x7_2) = t153 then ((zz.f a0).bind fun t151 => (if 0 ≤ t151 then (if t151 < (l1.length : Int) then (if (rd l1 x7_2) = (rd l1 t151) then (if x151001_2.length < 17592186044416 then (zj.l0 k2 a0 l1 (wrap64 (x7_2 + 1)) a0 (x151001_2 ++ [x7_2])) else (none)) else (zj.l0 k2 a0 l1 (wrap64 (x7_2 + 1)) a0 x151001_2)) else (none)) else (none))) else (zj.l0 k2 a0 l1 (wrap64 (x7_2 + 1)) a0 x151001_2))) else (none)) else (none)) else ((zw.f k2 a0 x151001_2).bind fun t160 => ((zV.f k2 t160 l1).bind fun t163 => (if t163 = true then (some (a0, x151001_2, true)) else (some (0, ([] : List Int), false)))))) = some (r1, r2, r3) := H
      have A13 := Aside0.mk A130
      clear A130
      by_cases c14 : x7_2 ≤ t151
      ·rw [if_pos c14] at H
       have c14b0 : decide (x7_2 ≤ t151) = true := decide_eq_true c14
       clear c14
       by_cases c15 : 0 ≤ x7_2
       ·rw [if_pos c15] at H
        have c15b0 : decide (0 ≤ x7_2) = true := decide_eq_true c15
        clear c15
        by_cases c16 : x7_2 < (l1.length : Int)
        ·rw [if_pos c16] at H
         have c16b0 : decide (x7_2 < (l1.length : Int)) = true := decide_eq_true c16
         clear c16
         replace H := Option.bind_eq_some_iff.mp H
         obtain ⟨t153, A170, H⟩ := H
         replace H : (if (rd l1 x7_2) = t153 then ((zz.f a0).bind fun t151 => (if 0 ≤ t151 then (if t151 < (l1.length : Int) then (if (rd l1 x7_2) = (rd l1 t151) then (if x151001_2.length < 17592186044416 then (zj.l0 k2 a0 l1 (wrap64 (x7_2 + 1)) a0 (x151001_2 ++ [x7_2])) else (none)) else (zj.l0 k2 a0 l1 (wrap64 (x7_2 + 1)) a0 x151001_2)) else (none)) else (none))) else (zj.l0 k2 a0 l1 (wrap64 (x7_2 + 1)) a0 x151001_2)) = some (r1, r2, r3) := H
         have A17 := Aside0.mk A170
         clear A170
         by_cases c18 : (rd l1 x7_2) = t153
         ·rw [if_pos c18] at H
          have c18b0 : ((rd l1 x7_2) == t153) = true := beq_iff_eq.mpr c18
          have c18b1 : ((rd l1 x7_2) != t153) = false := bne_eq_false_iff_eq.mpr c18
          clear c18
          replace H := Option.bind_eq_some_iff.mp H
          obtain ⟨t155, A190, H⟩ := H; obtain rfl : t151 = t155 := Option.some.inj (A13.out.symm.trans A190)
          replace H : (if 0 ≤ t151 then (if t151 < (l1.length : Int) then (if (rd l1 x7_2) = (rd l1 t151) then (if x151001_2.length < 17592186044416 then (zj.l0 k2 a0 l1 (wrap64 (x7_2 + 1)) a0 (x151001_2 ++ [x7_2])) else (none)) else (zj.l0 k2 a0 l1 (wrap64 (x7_2 + 1)) a0 x151001_2)) else (none)) else (none)) = some (r1, r2, r3) := H
          have A19 := Aside0.mk A190
          clear A190
          by_cases c20 : 0 ≤ t151
          ·rw [if_pos c20] at H
           have c20b0 : decide (0 ≤ t151) = true := decide_eq_true c20
           clear c20
           by_cases c21 : t151 < (l1.length : Int)
           ·rw [if_pos c21] at H
            have c21b0 : decide (t151 < (l1.length : Int)) = true := decide_eq_true c21
            clear c21
            by_cases c22 : (rd l1 x7_2) = (rd l1 t151)
            ·rw [if_pos c22] at H
             have c22b0 : ((rd l1 x7_2) == (rd l1 t151)) = true := beq_iff_eq.mpr c22
             have c22b1 : ((rd l1 x7_2) != (rd l1 t151)) = false := bne_eq_false_iff_eq.mpr c22
             clear c22
             by_cases c23 : x151001_2.length < 17592186044416
             ·rw [if_pos c23] at H
              have LMc23 := Aside0.mk c23
              clear c23
              obtain ⟨y157, hy157⟩ : ∃ y_ : List Int, y_ = (x151001_2 ++ [x7_2]) := ⟨_, rfl⟩
              replace H : (zj.l0 k2 a0 l1 (wrap64 (x7_2 + 1)) a0 y157) = some (r1, r2, r3) := by first | (rw [hy157]; with_reducible exact H) | (have H2_ := (Option.bind_some _ _).symm.trans H; rw [hy157]; with_reducible exact H2_) | (have H2_ := (Option.bind_some _ _).symm.trans H; with_reducible exact H2_) | with_reducible exact H | (rw [hy157]; exact H) | exact H
              have Ny157 := Aside0.mk hy157
              clear hy157
              have H' := Aside0.mk H
              clear H
              go_wp2_with (first | (go_at_call 43; (try simp only [zl, zo]); (with_reducible refine (zz.calls a0 t151 _ A13.out).mono ?_); rintro e w' ⟨rfl, ⟨nd, rfl⟩⟩; (try first | exact ⟨rfl, _, World.drewN_drewN _ _ _⟩ | exact ⟨rfl, _, Eq.trans (World.drewN_drewN _ _ _) (congrArg (World.drewN _) (Nat.add_assoc _ _ _))⟩); (try (have p152 : 0 ≤ (x7_2 : Int) := of_decide_eq_true sqA; have q152 : x7_2 < (l1.length : Int) := of_decide_eq_true sqA; obtain ⟨ad152, e152, hx152_0⟩ := Kd.zG HR1.out x7_2 p152 q152; cases e152; replace hx152_0 := (HB.out.cell (World.block_lt_of_cell? w _ hx152_0)).trans hx152_0; replace p152 := eq_true p152; replace q152 := eq_true q152)); (try (have p156 : 0 ≤ (t151 : Int) := of_decide_eq_true sqA; have q156 : t151 < (l1.length : Int) := of_decide_eq_true sqA; obtain ⟨ad156, e156, hx156_0⟩ := Kd.zG HR1.out t151 p156 q156; obtain rfl : ad152 = ad156 := (by injection e156); replace hx156_0 := (HB.out.cell (World.block_lt_of_cell? w _ hx156_0)).trans hx156_0; replace p156 := eq_true p156; replace q156 := eq_true q156; have hnb24 := NB150_147.out; have hnc24 := NB147_150.out; have hcz25_0 : wr.cell? ⟨gb150, 0, none⟩ = some (.int .i64 a0) := (za BK150.out 0).trans rfl; have hcz25_1 : wr.cell? ⟨gb150, 1, none⟩ = some (u151001) := (za BK150.out 1).trans rfl; have hfz25_0 := zb BK150.out 0; have hfz25_1 := zb BK150.out 1))) | (go_at_call 41; (try simp only [zl, zo]); (with_reducible refine (zF.calls k2 x7_2 t153 _ A17.out).mono ?_); rintro e w' ⟨rfl, ⟨nd, rfl⟩⟩; (try first | exact ⟨rfl, _, World.drewN_drewN _ _ _⟩ | exact ⟨rfl, _, Eq.trans (World.drewN_drewN _ _ _) (congrArg (World.drewN _) (Nat.add_assoc _ _ _))⟩); have p154 : 0 ≤ (x7_2 : Int) := of_decide_eq_true sqA; have q154 : x7_2 < (l1.length : Int) := of_decide_eq_true sqA; obtain ⟨ad154, e154, hx154_0⟩ := Kd.zG HR1.out x7_2 p154 q154; obtain rfl : ad152 = ad154 := (by injection e154); replace hx154_0 := (HB.out.cell (World.block_lt_of_cell? w _ hx154_0)).trans hx154_0; replace p154 := eq_true p154; replace q154 := eq_true q154) | ((with_reducible refine qK (b := .append) (xs := #[.tmp 48, .tmp 50]) rfl ?_); (try (refine zP (by rfl) ?_; dsimp only)); at_builtin; refine Kd.js (Kd.int .i64) (w0 := w) w.heap.size rfl (.tmp 48) (.tmp 50) 22 3 (.int .i64 0) 8 rfl Try.underlying22 vJ rfl (by decide) (by omega) u151001 x151001_2 x7_2 [.int .i64 x7_2] (fun _ => True) (fun _ => False) rfl rfl ?aP (fun _ hk => hk.elim) ?aF ?aO ?aB ?aS ?aL ?_; (case aP => exact rfl); (case aB => exact sqB); (case aF => exact (fun _ _ => trivial)); (case aO => exact (sqR HO_151001.out)); (case aS => exact (zt sqB)); (case aL => have := LMc23.out; omega); intro v158 w26 ho hb hg hat; rw [← Ny157.out] at ho; have n0_ := Aside0.mk (qU (g := gb147) (o := .cells #[.int .i64 0, .slice none 0 0] 27 (0, 0)) (sqK BK147.out) hg (Kd.vG HO_151001.out BK147.out (by decide))); have n1_ := Aside0.mk (qU (g := gb150) (o := .cells #[.int .i64 a0, u151001] 27 (0, 0)) (sqK BK150.out) hg (Kd.vG HO_151001.out BK150.out (by decide))); have n2_ := Aside0.mk (hb); have n3_ := Aside0.mk (ho); clear BK147; clear BK150; clear HB; clear HO_151001; have BK147 := n0_; have BK150 := n1_; have HB := n2_; have HO159 := n3_; clear n0_ n1_ n2_ n3_; clear ho hb hg hat; obtain ⟨Ao27, co27, eo27⟩ := Kd.qc HO159.out; subst eo27; have hcz28_0 : w26.cell? ⟨gb150, 0, none⟩ = some (.int .i64 a0) := (za BK150.out 0).trans rfl; have hcz28_1 : w26.cell? ⟨gb150, 1, none⟩ = some (u151001) := (za BK150.out 1).trans rfl; have hfz28_0 := zb BK150.out 0; have hfz28_1 := zb BK150.out 1))
              repeat (go_quiet (first | (go_at_call 43; (try simp only [zl, zo]); (with_reducible refine (zz.calls a0 t151 _ A13.out).mono ?_); rintro e w' ⟨rfl, ⟨nd, rfl⟩⟩; (try first | exact ⟨rfl, _, World.drewN_drewN _ _ _⟩ | exact ⟨rfl, _, Eq.trans (World.drewN_drewN _ _ _) (congrArg (World.drewN _) (Nat.add_assoc _ _ _))⟩); (try (have p152 : 0 ≤ (x7_2 : Int) := of_decide_eq_true sqA; have q152 : x7_2 < (l1.length : Int) := of_decide_eq_true sqA; obtain ⟨ad152, e152, hx152_0⟩ := Kd.zG HR1.out x7_2 p152 q152; cases e152; replace hx152_0 := (HB.out.cell (World.block_lt_of_cell? w _ hx152_0)).trans hx152_0; replace p152 := eq_true p152; replace q152 := eq_true q152)); (try (have p156 : 0 ≤ (t151 : Int) := of_decide_eq_true sqA; have q156 : t151 < (l1.length : Int) := of_decide_eq_true sqA; obtain ⟨ad156, e156, hx156_0⟩ := Kd.zG HR1.out t151 p156 q156; obtain rfl : ad152 = ad156 := (by injection e156); replace hx156_0 := (HB.out.cell (World.block_lt_of_cell? w _ hx156_0)).trans hx156_0; replace p156 := eq_true p156; replace q156 := eq_true q156; have hnb24 := NB150_147.out; have hnc24 := NB147_150.out; have hcz25_0 : wr.cell? ⟨gb150, 0, none⟩ = some (.int .i64 a0) := (za BK150.out 0).trans rfl; have hcz25_1 : wr.cell? ⟨gb150, 1, none⟩ = some (u151001) := (za BK150.out 1).trans rfl; have hfz25_0 := zb BK150.out 0; have hfz25_1 := zb BK150.out 1))) | (go_at_call 41; (try simp only [zl, zo]); (with_reducible refine (zF.calls k2 x7_2 t153 _ A17.out).mono ?_); rintro e w' ⟨rfl, ⟨nd, rfl⟩⟩; (try first | exact ⟨rfl, _, World.drewN_drewN _ _ _⟩ | exact ⟨rfl, _, Eq.trans (World.drewN_drewN _ _ _) (congrArg (World.drewN _) (Nat.add_assoc _ _ _))⟩); have p154 : 0 ≤ (x7_2 : Int) := of_decide_eq_true sqA; have q154 : x7_2 < (l1.length : Int) := of_decide_eq_true sqA; obtain ⟨ad154, e154, hx154_0⟩ := Kd.zG HR1.out x7_2 p154 q154; obtain rfl : ad152 = ad154 := (by injection e154); replace hx154_0 := (HB.out.cell (World.block_lt_of_cell? w _ hx154_0)).trans hx154_0; replace p154 := eq_true p154; replace q154 := eq_true q154) | ((with_reducible refine qK (b := .append) (xs := #[.tmp 48, .tmp 50]) rfl ?_); (try (refine zP (by rfl) ?_; dsimp only)); at_builtin; refine Kd.js (Kd.int .i64) (w0 := w) w.heap.size rfl (.tmp 48) (.tmp 50) 22 3 (.int .i64 0) 8 rfl Try.underlying22 vJ rfl (by decide) (by omega) u151001 x151001_2 x7_2 [.int .i64 x7_2] (fun _ => True) (fun _ => False) rfl rfl ?aP (fun _ hk => hk.elim) ?aF ?aO ?aB ?aS ?aL ?_; (case aP => exact rfl); (case aB => exact sqB); (case aF => exact (fun _ _ => trivial)); (case aO => exact (sqR HO_151001.out)); (case aS => exact (zt sqB)); (case aL => have := LMc23.out; omega); intro v158 w26 ho hb hg hat; rw [← Ny157.out] at ho; have n0_ := Aside0.mk (qU (g := gb147) (o := .cells #[.int .i64 0, .slice none 0 0] 27 (0, 0)) (sqK BK147.out) hg (Kd.vG HO_151001.out BK147.out (by decide))); have n1_ := Aside0.mk (qU (g := gb150) (o := .cells #[.int .i64 a0, u151001] 27 (0, 0)) (sqK BK150.out) hg (Kd.vG HO_151001.out BK150.out (by decide))); have n2_ := Aside0.mk (hb); have n3_ := Aside0.mk (ho); clear BK147; clear BK150; clear HB; clear HO_151001; have BK147 := n0_; have BK150 := n1_; have HB := n2_; have HO159 := n3_; clear n0_ n1_ n2_ n3_; clear ho hb hg hat; obtain ⟨Ao27, co27, eo27⟩ := Kd.qc HO159.out; subst eo27; have hcz28_0 : w26.cell? ⟨gb150, 0, none⟩ = some (.int .i64 a0) := (za BK150.out 0).trans rfl; have hcz28_1 : w26.cell? ⟨gb150, 1, none⟩ = some (u151001) := (za BK150.out 1).trans rfl; have hfz28_0 := zb BK150.out 0; have hfz28_1 := zb BK150.out 1)); try go_wp2_with (first | (go_at_call 43; (try simp only [zl, zo]); (with_reducible refine (zz.calls a0 t151 _ A13.out).mono ?_); rintro e w' ⟨rfl, ⟨nd, rfl⟩⟩; (try first | exact ⟨rfl, _, World.drewN_drewN _ _ _⟩ | exact ⟨rfl, _, Eq.trans (World.drewN_drewN _ _ _) (congrArg (World.drewN _) (Nat.add_assoc _ _ _))⟩); (try (have p152 : 0 ≤ (x7_2 : Int) := of_decide_eq_true sqA; have q152 : x7_2 < (l1.length : Int) := of_decide_eq_true sqA; obtain ⟨ad152, e152, hx152_0⟩ := Kd.zG HR1.out x7_2 p152 q152; cases e152; replace hx152_0 := (HB.out.cell (World.block_lt_of_cell? w _ hx152_0)).trans hx152_0; replace p152 := eq_true p152; replace q152 := eq_true q152)); (try (have p156 : 0 ≤ (t151 : Int) := of_decide_eq_true sqA; have q156 : t151 < (l1.length : Int) := of_decide_eq_true sqA; obtain ⟨ad156, e156, hx156_0⟩ := Kd.zG HR1.out t151 p156 q156; obtain rfl : ad152 = ad156 := (by injection e156); replace hx156_0 := (HB.out.cell (World.block_lt_of_cell? w _ hx156_0)).trans hx156_0; replace p156 := eq_true p156; replace q156 := eq_true q156; have hnb24 := NB150_147.out; have hnc24 := NB147_150.out; have hcz25_0 : wr.cell? ⟨gb150, 0, none⟩ = some (.int .i64 a0) := (za BK150.out 0).trans rfl; have hcz25_1 : wr.cell? ⟨gb150, 1, none⟩ = some (u151001) := (za BK150.out 1).trans rfl; have hfz25_0 := zb BK150.out 0; have hfz25_1 := zb BK150.out 1))) | (go_at_call 41; (try simp only [zl, zo]); (with_reducible refine (zF.calls k2 x7_2 t153 _ A17.out).mono ?_); rintro e w' ⟨rfl, ⟨nd, rfl⟩⟩; (try first | exact ⟨rfl, _, World.drewN_drewN _ _ _⟩ | exact ⟨rfl, _, Eq.trans (World.drewN_drewN _ _ _) (congrArg (World.drewN _) (Nat.add_assoc _ _ _))⟩); have p154 : 0 ≤ (x7_2 : Int) := of_decide_eq_true sqA; have q154 : x7_2 < (l1.length : Int) := of_decide_eq_true sqA; obtain ⟨ad154, e154, hx154_0⟩ := Kd.zG HR1.out x7_2 p154 q154; obtain rfl : ad152 = ad154 := (by injection e154); replace hx154_0 := (HB.out.cell (World.block_lt_of_cell? w _ hx154_0)).trans hx154_0; replace p154 := eq_true p154; replace q154 := eq_true q154) | ((with_reducible refine qK (b := .append) (xs := #[.tmp 48, .tmp 50]) rfl ?_); (try (refine zP (by rfl) ?_; dsimp only)); at_builtin; refine Kd.js (Kd.int .i64) (w0 := w) w.heap.size rfl (.tmp 48) (.tmp 50) 22 3 (.int .i64 0) 8 rfl Try.underlying22 vJ rfl (by decide) (by omega) u151001 x151001_2 x7_2 [.int .i64 x7_2] (fun _ => True) (fun _ => False) rfl rfl ?aP (fun _ hk => hk.elim) ?aF ?aO ?aB ?aS ?aL ?_; (case aP => exact rfl); (case aB => exact sqB); (case aF => exact (fun _ _ => trivial)); (case aO => exact (sqR HO_151001.out)); (case aS => exact (zt sqB)); (case aL => have := LMc23.out; omega); intro v158 w26 ho hb hg hat; rw [← Ny157.out] at ho; have n0_ := Aside0.mk (qU (g := gb147) (o := .cells #[.int .i64 0, .slice none 0 0] 27 (0, 0)) (sqK BK147.out) hg (Kd.vG HO_151001.out BK147.out (by decide))); have n1_ := Aside0.mk (qU (g := gb150) (o := .cells #[.int .i64 a0, u151001] 27 (0, 0)) (sqK BK150.out) hg (Kd.vG HO_151001.out BK150.out (by decide))); have n2_ := Aside0.mk (hb); have n3_ := Aside0.mk (ho); clear BK147; clear BK150; clear HB; clear HO_151001; have BK147 := n0_; have BK150 := n1_; have HB := n2_; have HO159 := n3_; clear n0_ n1_ n2_ n3_; clear ho hb hg hat; obtain ⟨Ao27, co27, eo27⟩ := Kd.qc HO159.out; subst eo27; have hcz28_0 : w26.cell? ⟨gb150, 0, none⟩ = some (.int .i64 a0) := (za BK150.out 0).trans rfl; have hcz28_1 : w26.cell? ⟨gb150, 1, none⟩ = some (u151001) := (za BK150.out 1).trans rfl; have hfz28_0 := zb BK150.out 0; have hfz28_1 := zb BK150.out 1)))
              go_roundg k2
              case measure => have := HJ2.out; have := HK2.out; omega
              case rel => exact ⟨(wrap64 (x7_2 + 1)), (y157), (.slice Ao27 y157.length co27), (sqD), H', ⟨by have := HJ2.out; have := HK2.out; omega⟩, ⟨by refine sqR ?_; exact Kd.zN (Kd.zW (p := ⟨gb150, 1, none⟩) (Kd.qa HO159.out BK150.out (by decide)) (fun _ hk => hk.2) (.slice Ao27 y157.length co27)) (fun _ hk => trivial)⟩, ⟨by refine sqK ?_; refine qn ?_ NB147_150.out _; refine sqK ?_; exact BK147.out⟩, ⟨by refine sqK ?_; refine zM (cs := #[.int .i64 a0, u151001]) ?_ 1 _ rfl; refine sqK ?_; exact BK150.out⟩, ⟨sqB⟩⟩
             ·rw [if_neg c23] at H
              exact absurd H (by simp)
            ·rw [if_neg c22] at H
             have c22b0 : ((rd l1 x7_2) == (rd l1 t151)) = false := beq_eq_false_iff_ne.mpr c22
             have c22b1 : ((rd l1 x7_2) != (rd l1 t151)) = true := bne_iff_ne.mpr c22
             have H' := Aside0.mk H
             clear H
             go_wp2_with (first | (go_at_call 43; (try simp only [zl, zo]); (with_reducible refine (zz.calls a0 t151 _ A13.out).mono ?_); rintro e w' ⟨rfl, ⟨nd, rfl⟩⟩; (try first | exact ⟨rfl, _, World.drewN_drewN _ _ _⟩ | exact ⟨rfl, _, Eq.trans (World.drewN_drewN _ _ _) (congrArg (World.drewN _) (Nat.add_assoc _ _ _))⟩); (try (have p152 : 0 ≤ (x7_2 : Int) := of_decide_eq_true sqA; have q152 : x7_2 < (l1.length : Int) := of_decide_eq_true sqA; obtain ⟨ad152, e152, hx152_0⟩ := Kd.zG HR1.out x7_2 p152 q152; cases e152; replace hx152_0 := (HB.out.cell (World.block_lt_of_cell? w _ hx152_0)).trans hx152_0; replace p152 := eq_true p152; replace q152 := eq_true q152)); (try (have p156 : 0 ≤ (t151 : Int) := of_decide_eq_true sqA; have q156 : t151 < (l1.length : Int) := of_decide_eq_true sqA; obtain ⟨ad156, e156, hx156_0⟩ := Kd.zG HR1.out t151 p156 q156; obtain rfl : ad152 = ad156 := (by injection e156); replace hx156_0 := (HB.out.cell (World.block_lt_of_cell? w _ hx156_0)).trans hx156_0; replace p156 := eq_true p156; replace q156 := eq_true q156))) | (go_at_call 41; (try simp only [zl, zo]); (with_reducible refine (zF.calls k2 x7_2 t153 _ A17.out).mono ?_); rintro e w' ⟨rfl, ⟨nd, rfl⟩⟩; (try first | exact ⟨rfl, _, World.drewN_drewN _ _ _⟩ | exact ⟨rfl, _, Eq.trans (World.drewN_drewN _ _ _) (congrArg (World.drewN _) (Nat.add_assoc _ _ _))⟩); have p154 : 0 ≤ (x7_2 : Int) := of_decide_eq_true sqA; have q154 : x7_2 < (l1.length : Int) := of_decide_eq_true sqA; obtain ⟨ad154, e154, hx154_0⟩ := Kd.zG HR1.out x7_2 p154 q154; obtain rfl : ad152 = ad154 := (by injection e154); replace hx154_0 := (HB.out.cell (World.block_lt_of_cell? w _ hx154_0)).trans hx154_0; replace p154 := eq_true p154; replace q154 := eq_true q154))
             repeat (go_quiet (first | (go_at_call 43; (try simp only [zl, zo]); (with_reducible refine (zz.calls a0 t151 _ A13.out).mono ?_); rintro e w' ⟨rfl, ⟨nd, rfl⟩⟩; (try first | exact ⟨rfl, _, World.drewN_drewN _ _ _⟩ | exact ⟨rfl, _, Eq.trans (World.drewN_drewN _ _ _) (congrArg (World.drewN _) (Nat.add_assoc _ _ _))⟩); (try (have p152 : 0 ≤ (x7_2 : Int) := of_decide_eq_true sqA; have q152 : x7_2 < (l1.length : Int) := of_decide_eq_true sqA; obtain ⟨ad152, e152, hx152_0⟩ := Kd.zG HR1.out x7_2 p152 q152; cases e152; replace hx152_0 := (HB.out.cell (World.block_lt_of_cell? w _ hx152_0)).trans hx152_0; replace p152 := eq_true p152; replace q152 := eq_true q152)); (try (have p156 : 0 ≤ (t151 : Int) := of_decide_eq_true sqA; have q156 : t151 < (l1.length : Int) := of_decide_eq_true sqA; obtain ⟨ad156, e156, hx156_0⟩ := Kd.zG HR1.out t151 p156 q156; obtain rfl : ad152 = ad156 := (by injection e156); replace hx156_0 := (HB.out.cell (World.block_lt_of_cell? w _ hx156_0)).trans hx156_0; replace p156 := eq_true p156; replace q156 := eq_true q156))) | (go_at_call 41; (try simp only [zl, zo]); (with_reducible refine (zF.calls k2 x7_2 t153 _ A17.out).mono ?_); rintro e w' ⟨rfl, ⟨nd, rfl⟩⟩; (try first | exact ⟨rfl, _, World.drewN_drewN _ _ _⟩ | exact ⟨rfl, _, Eq.trans (World.drewN_drewN _ _ _) (congrArg (World.drewN _) (Nat.add_assoc _ _ _))⟩); have p154 : 0 ≤ (x7_2 : Int) := of_decide_eq_true sqA; have q154 : x7_2 < (l1.length : Int) := of_decide_eq_true sqA; obtain ⟨ad154, e154, hx154_0⟩ := Kd.zG HR1.out x7_2 p154 q154; obtain rfl : ad152 = ad154 := (by injection e154); replace hx154_0 := (HB.out.cell (World.block_lt_of_cell? w _ hx154_0)).trans hx154_0; replace p154 := eq_true p154; replace q154 := eq_true q154)); try go_wp2_with (first | (go_at_call 43; (try simp only [zl, zo]); (with_reducible refine (zz.calls a0 t151 _ A13.out).mono ?_); rintro e w' ⟨rfl, ⟨nd, rfl⟩⟩; (try first | exact ⟨rfl, _, World.drewN_drewN _ _ _⟩ | exact ⟨rfl, _, Eq.trans (World.drewN_drewN _ _ _) (congrArg (World.drewN _) (Nat.add_assoc _ _ _))⟩); (try (have p152 : 0 ≤ (x7_2 : Int) := of_decide_eq_true sqA; have q152 : x7_2 < (l1.length : Int) := of_decide_eq_true sqA; obtain ⟨ad152, e152, hx152_0⟩ := Kd.zG HR1.out x7_2 p152 q152; cases e152; replace hx152_0 := (HB.out.cell (World.block_lt_of_cell? w _ hx152_0)).trans hx152_0; replace p152 := eq_true p152; replace q152 := eq_true q152)); (try (have p156 : 0 ≤ (t151 : Int) := of_decide_eq_true sqA; have q156 : t151 < (l1.length : Int) := of_decide_eq_true sqA; obtain ⟨ad156, e156, hx156_0⟩ := Kd.zG HR1.out t151 p156 q156; obtain rfl : ad152 = ad156 := (by injection e156); replace hx156_0 := (HB.out.cell (World.block_lt_of_cell? w _ hx156_0)).trans hx156_0; replace p156 := eq_true p156; replace q156 := eq_true q156))) | (go_at_call 41; (try simp only [zl, zo]); (with_reducible refine (zF.calls k2 x7_2 t153 _ A17.out).mono ?_); rintro e w' ⟨rfl, ⟨nd, rfl⟩⟩; (try first | exact ⟨rfl, _, World.drewN_drewN _ _ _⟩ | exact ⟨rfl, _, Eq.trans (World.drewN_drewN _ _ _) (congrArg (World.drewN _) (Nat.add_assoc _ _ _))⟩); have p154 : 0 ≤ (x7_2 : Int) := of_decide_eq_true sqA; have q154 : x7_2 < (l1.length : Int) := of_decide_eq_true sqA; obtain ⟨ad154, e154, hx154_0⟩ := Kd.zG HR1.out x7_2 p154 q154; obtain rfl : ad152 = ad154 := (by injection e154); replace hx154_0 := (HB.out.cell (World.block_lt_of_cell? w _ hx154_0)).trans hx154_0; replace p154 := eq_true p154; replace q154 := eq_true q154)))
             go_roundg k2
             case measure => have := HJ2.out; have := HK2.out; omega
             case rel => exact ⟨(wrap64 (x7_2 + 1)), (x151001_2), (u151001), (sqD), H', ⟨by have := HJ2.out; have := HK2.out; omega⟩, ⟨sqR HO_151001.out⟩, ⟨sqK BK147.out⟩, ⟨sqK BK150.out⟩, ⟨sqB⟩⟩
           ·rw [if_neg c21] at H
            exact absurd H (by simp)
          ·rw [if_neg c20] at H
           exact absurd H (by simp)
         ·rw [if_neg c18] at H
          have c18b0 : ((rd l1 x7_2) == t153) = false := beq_eq_false_iff_ne.mpr c18
          have c18b1 : ((rd l1 x7_2) != t153) = true := bne_iff_ne.mpr c18
          have H' := Aside0.mk H
          clear H
          go_wp2_with (first | (go_at_call 43; (try simp only [zl, zo]); (with_reducible refine (zz.calls a0 t151 _ A13.out).mono ?_); rintro e w' ⟨rfl, ⟨nd, rfl⟩⟩; (try first | exact ⟨rfl, _, World.drewN_drewN _ _ _⟩ | exact ⟨rfl, _, Eq.trans (World.drewN_drewN _ _ _) (congrArg (World.drewN _) (Nat.add_assoc _ _ _))⟩); have p152 : 0 ≤ (x7_2 : Int) := of_decide_eq_true sqA; have q152 : x7_2 < (l1.length : Int) := of_decide_eq_true sqA; obtain ⟨ad152, e152, hx152_0⟩ := Kd.zG HR1.out x7_2 p152 q152; cases e152; replace hx152_0 := (HB.out.cell (World.block_lt_of_cell? w _ hx152_0)).trans hx152_0; replace p152 := eq_true p152; replace q152 := eq_true q152) | (go_at_call 41; (try simp only [zl, zo]); (with_reducible refine (zF.calls k2 x7_2 t153 _ A17.out).mono ?_); rintro e w' ⟨rfl, ⟨nd, rfl⟩⟩; (try first | exact ⟨rfl, _, World.drewN_drewN _ _ _⟩ | exact ⟨rfl, _, Eq.trans (World.drewN_drewN _ _ _) (congrArg (World.drewN _) (Nat.add_assoc _ _ _))⟩)))
          repeat (go_quiet (first | (go_at_call 43; (try simp only [zl, zo]); (with_reducible refine (zz.calls a0 t151 _ A13.out).mono ?_); rintro e w' ⟨rfl, ⟨nd, rfl⟩⟩; (try first | exact ⟨rfl, _, World.drewN_drewN _ _ _⟩ | exact ⟨rfl, _, Eq.trans (World.drewN_drewN _ _ _) (congrArg (World.drewN _) (Nat.add_assoc _ _ _))⟩); have p152 : 0 ≤ (x7_2 : Int) := of_decide_eq_true sqA; have q152 : x7_2 < (l1.length : Int) := of_decide_eq_true sqA; obtain ⟨ad152, e152, hx152_0⟩ := Kd.zG HR1.out x7_2 p152 q152; cases e152; replace hx152_0 := (HB.out.cell (World.block_lt_of_cell? w _ hx152_0)).trans hx152_0; replace p152 := eq_true p152; replace q152 := eq_true q152) | (go_at_call 41; (try simp only [zl, zo]); (with_reducible refine (zF.calls k2 x7_2 t153 _ A17.out).mono ?_); rintro e w' ⟨rfl, ⟨nd, rfl⟩⟩; (try first | exact ⟨rfl, _, World.drewN_drewN _ _ _⟩ | exact ⟨rfl, _, Eq.trans (World.drewN_drewN _ _ _) (congrArg (World.drewN _) (Nat.add_assoc _ _ _))⟩))); try go_wp2_with (first | (go_at_call 43; (try simp only [zl, zo]); (with_reducible refine (zz.calls a0 t151 _ A13.out).mono ?_); rintro e w' ⟨rfl, ⟨nd, rfl⟩⟩; (try first | exact ⟨rfl, _, World.drewN_drewN _ _ _⟩ | exact ⟨rfl, _, Eq.trans (World.drewN_drewN _ _ _) (congrArg (World.drewN _) (Nat.add_assoc _ _ _))⟩); have p152 : 0 ≤ (x7_2 : Int) := of_decide_eq_true sqA; have q152 : x7_2 < (l1.length : Int) := of_decide_eq_true sqA; obtain ⟨ad152, e152, hx152_0⟩ := Kd.zG HR1.out x7_2 p152 q152; cases e152; replace hx152_0 := (HB.out.cell (World.block_lt_of_cell? w _ hx152_0)).trans hx152_0; replace p152 := eq_true p152; replace q152 := eq_true q152) | (go_at_call 41; (try simp only [zl, zo]); (with_reducible refine (zF.calls k2 x7_2 t153 _ A17.out).mono ?_); rintro e w' ⟨rfl, ⟨nd, rfl⟩⟩; (try first | exact ⟨rfl, _, World.drewN_drewN _ _ _⟩ | exact ⟨rfl, _, Eq.trans (World.drewN_drewN _ _ _) (congrArg (World.drewN _) (Nat.add_assoc _ _ _))⟩))))
          go_roundg k2
          case measure => have := HJ2.out; have := HK2.out; omega
          case rel => exact ⟨(wrap64 (x7_2 + 1)), (x151001_2), (u151001), (sqD), H', ⟨by have := HJ2.out; have := HK2.out; omega⟩, ⟨sqR HO_151001.out⟩, ⟨sqK BK147.out⟩, ⟨sqK BK150.out⟩, ⟨sqB⟩⟩
        ·rw [if_neg c16] at H
         exact absurd H (by simp)
       ·rw [if_neg c15] at H
        exact absurd H (by simp)
      ·rw [if_neg c14] at H
       have c14b0 : decide (x7_2 ≤ t151) = false := decide_eq_false c14
       clear c14
       replace H := Option.bind_eq_some_iff.mp H
       obtain ⟨t160, A290, H⟩ := H
       replace H : ((zV.f k2 t160 l1).bind fun t163 => (if t163 = true then (some (a0, x151001_2, true)) else (some (0, ([] : List Int), false)))) = some (r1, r2, r3) := H
       have A29 := Aside0.mk A290
       clear A290
       replace H := Option.bind_eq_some_iff.mp H
       obtain ⟨t163, A300, H⟩ := H
       replace H : (if t163 = true then (some (a0, x151001_2, true)) else (some (0, ([] : List Int), false))) = some (r1, r2, r3) := H
       have A30 := Aside0.mk A300
       clear A300
       by_cases c31 : t163 = true
       ·subst c31
        have H1 : (some (a0, x151001_2, true)) = some (r1, r2, r3) := by rw [if_pos rfl] at H; exact H
        clear H
        have H := H1
        clear H1
        simp only [Option.some.injEq, Prod.mk.injEq] at H
        obtain ⟨rfl, rfl, rfl⟩ := H
        go_wp2_with (first | (go_at_call 43; (try simp only [zl, zo]); (with_reducible refine (zz.calls a0 t151 _ A13.out).mono ?_); rintro e w' ⟨rfl, ⟨nd, rfl⟩⟩; (try first | exact ⟨rfl, _, World.drewN_drewN _ _ _⟩ | exact ⟨rfl, _, Eq.trans (World.drewN_drewN _ _ _) (congrArg (World.drewN _) (Nat.add_assoc _ _ _))⟩); have hnb32 := NB150_147.out; have hnc32 := NB147_150.out; have hcz33_0 : wr.cell? ⟨gb150, 0, none⟩ = some (.int .i64 a0) := (za BK150.out 0).trans rfl; have hcz33_1 : wr.cell? ⟨gb150, 1, none⟩ = some (u151001) := (za BK150.out 1).trans rfl; have hfz33_0 := zb BK150.out 0; have hfz33_1 := zb BK150.out 1; obtain ⟨Ao34, co34, eo34⟩ := Kd.qc HO_151001.out; subst eo34) | (go_at_call 19; (try simp only [zl, zo]); (with_reducible refine (zw.calls k2 a0 _ _ x151001_2 t160 _ ?side1 ?side2 A29.out).mono ?_); (case side1 => exact sqC (Kd.zm HO_151001.out).2.2); (case side2 => exact (Kd.zm HO_151001.out).2.1); rintro e w35 ⟨v161, rfl, ho0, hb⟩; have n0_ := Aside0.mk (Kd.qi (sqR HO_151001.out) (Kd.qB ho0) hb); have n1_ := Aside0.mk (Kd.qf (Kd.qC ho0 (Kd.ju (sqR HO_151001.out))) (zt sqB)); have n2_ := Aside0.mk (zd (g := gb147) (o := .cells #[.int .i64 0, .slice none 0 0] 27 (0, 0)) (sqK BK147.out) hb); have n3_ := Aside0.mk (zd (g := gb150) (o := .cells #[.int .i64 a0, .slice Ao34 x151001_2.length co34] 27 (0, 0)) (sqK BK150.out) hb); have n4_ := Aside0.mk (ze sqB hb); clear HO_151001; clear BK147; clear BK150; clear HB; have HO_151001 := n0_; have HO162 := n1_; have BK147 := n2_; have BK150 := n3_; have HB := n4_; clear n0_ n1_ n2_ n3_ n4_; (try clear hb); (try clear hb2); (try clear hk); (try clear hi); (try clear ho0); obtain ⟨Ao36, co36, eo36⟩ := Kd.qc HO162.out; subst eo36) | (go_at_call 55; (try simp only [zl, zo]); (with_reducible refine (zV.calls k2 _ _ t160 _ _ l1 true _ ?side1 ?side2 ?side3 ?side4 A30.out).mono ?_); (case side1 => exact sqC (Kd.zm HO162.out).2.2); (case side2 => exact (Kd.zm HO162.out).2.1); (case side3 => exact sqC (Kd.zH HR1.out HB.out)); (case side4 => exact HC1.out); rintro e w' ⟨rfl, ⟨nd, rfl⟩⟩; (try first | exact ⟨rfl, _, World.drewN_drewN _ _ _⟩ | exact ⟨rfl, _, Eq.trans (World.drewN_drewN _ _ _) (congrArg (World.drewN _) (Nat.add_assoc _ _ _))⟩); have hcz37_0 : w35.cell? ⟨gb150, 0, none⟩ = some (.int .i64 a0) := (za BK150.out 0).trans rfl; have hcz37_1 : w35.cell? ⟨gb150, 1, none⟩ = some (.slice Ao34 x151001_2.length co34) := (za BK150.out 1).trans rfl; have hfz37_0 := zb BK150.out 0; have hfz37_1 := zb BK150.out 1; have hcz38_0 : w35.cell? ⟨gb147, 0, none⟩ = some (.int .i64 0) := (za BK147.out 0).trans rfl; have hcz38_1 : w35.cell? ⟨gb147, 1, none⟩ = some (.slice none 0 0) := (za BK147.out 1).trans rfl; have hfz38_0 := zb BK147.out 0; have hfz38_1 := zb BK147.out 1))
        repeat (go_quiet (first | (go_at_call 43; (try simp only [zl, zo]); (with_reducible refine (zz.calls a0 t151 _ A13.out).mono ?_); rintro e w' ⟨rfl, ⟨nd, rfl⟩⟩; (try first | exact ⟨rfl, _, World.drewN_drewN _ _ _⟩ | exact ⟨rfl, _, Eq.trans (World.drewN_drewN _ _ _) (congrArg (World.drewN _) (Nat.add_assoc _ _ _))⟩); have hnb32 := NB150_147.out; have hnc32 := NB147_150.out; have hcz33_0 : wr.cell? ⟨gb150, 0, none⟩ = some (.int .i64 a0) := (za BK150.out 0).trans rfl; have hcz33_1 : wr.cell? ⟨gb150, 1, none⟩ = some (u151001) := (za BK150.out 1).trans rfl; have hfz33_0 := zb BK150.out 0; have hfz33_1 := zb BK150.out 1; obtain ⟨Ao34, co34, eo34⟩ := Kd.qc HO_151001.out; subst eo34) | (go_at_call 19; (try simp only [zl, zo]); (with_reducible refine (zw.calls k2 a0 _ _ x151001_2 t160 _ ?side1 ?side2 A29.out).mono ?_); (case side1 => exact sqC (Kd.zm HO_151001.out).2.2); (case side2 => exact (Kd.zm HO_151001.out).2.1); rintro e w35 ⟨v161, rfl, ho0, hb⟩; have n0_ := Aside0.mk (Kd.qi (sqR HO_151001.out) (Kd.qB ho0) hb); have n1_ := Aside0.mk (Kd.qf (Kd.qC ho0 (Kd.ju (sqR HO_151001.out))) (zt sqB)); have n2_ := Aside0.mk (zd (g := gb147) (o := .cells #[.int .i64 0, .slice none 0 0] 27 (0, 0)) (sqK BK147.out) hb); have n3_ := Aside0.mk (zd (g := gb150) (o := .cells #[.int .i64 a0, .slice Ao34 x151001_2.length co34] 27 (0, 0)) (sqK BK150.out) hb); have n4_ := Aside0.mk (ze sqB hb); clear HO_151001; clear BK147; clear BK150; clear HB; have HO_151001 := n0_; have HO162 := n1_; have BK147 := n2_; have BK150 := n3_; have HB := n4_; clear n0_ n1_ n2_ n3_ n4_; (try clear hb); (try clear hb2); (try clear hk); (try clear hi); (try clear ho0); obtain ⟨Ao36, co36, eo36⟩ := Kd.qc HO162.out; subst eo36) | (go_at_call 55; (try simp only [zl, zo]); (with_reducible refine (zV.calls k2 _ _ t160 _ _ l1 true _ ?side1 ?side2 ?side3 ?side4 A30.out).mono ?_); (case side1 => exact sqC (Kd.zm HO162.out).2.2); (case side2 => exact (Kd.zm HO162.out).2.1); (case side3 => exact sqC (Kd.zH HR1.out HB.out)); (case side4 => exact HC1.out); rintro e w' ⟨rfl, ⟨nd, rfl⟩⟩; (try first | exact ⟨rfl, _, World.drewN_drewN _ _ _⟩ | exact ⟨rfl, _, Eq.trans (World.drewN_drewN _ _ _) (congrArg (World.drewN _) (Nat.add_assoc _ _ _))⟩); have hcz37_0 : w35.cell? ⟨gb150, 0, none⟩ = some (.int .i64 a0) := (za BK150.out 0).trans rfl; have hcz37_1 : w35.cell? ⟨gb150, 1, none⟩ = some (.slice Ao34 x151001_2.length co34) := (za BK150.out 1).trans rfl; have hfz37_0 := zb BK150.out 0; have hfz37_1 := zb BK150.out 1; have hcz38_0 : w35.cell? ⟨gb147, 0, none⟩ = some (.int .i64 0) := (za BK147.out 0).trans rfl; have hcz38_1 : w35.cell? ⟨gb147, 1, none⟩ = some (.slice none 0 0) := (za BK147.out 1).trans rfl; have hfz38_0 := zb BK147.out 0; have hfz38_1 := zb BK147.out 1)); try go_wp2_with (first | (go_at_call 43; (try simp only [zl, zo]); (with_reducible refine (zz.calls a0 t151 _ A13.out).mono ?_); rintro e w' ⟨rfl, ⟨nd, rfl⟩⟩; (try first | exact ⟨rfl, _, World.drewN_drewN _ _ _⟩ | exact ⟨rfl, _, Eq.trans (World.drewN_drewN _ _ _) (congrArg (World.drewN _) (Nat.add_assoc _ _ _))⟩); have hnb32 := NB150_147.out; have hnc32 := NB147_150.out; have hcz33_0 : wr.cell? ⟨gb150, 0, none⟩ = some (.int .i64 a0) := (za BK150.out 0).trans rfl; have hcz33_1 : wr.cell? ⟨gb150, 1, none⟩ = some (u151001) := (za BK150.out 1).trans rfl; have hfz33_0 := zb BK150.out 0; have hfz33_1 := zb BK150.out 1; obtain ⟨Ao34, co34, eo34⟩ := Kd.qc HO_151001.out; subst eo34) | (go_at_call 19; (try simp only [zl, zo]); (with_reducible refine (zw.calls k2 a0 _ _ x151001_2 t160 _ ?side1 ?side2 A29.out).mono ?_); (case side1 => exact sqC (Kd.zm HO_151001.out).2.2); (case side2 => exact (Kd.zm HO_151001.out).2.1); rintro e w35 ⟨v161, rfl, ho0, hb⟩; have n0_ := Aside0.mk (Kd.qi (sqR HO_151001.out) (Kd.qB ho0) hb); have n1_ := Aside0.mk (Kd.qf (Kd.qC ho0 (Kd.ju (sqR HO_151001.out))) (zt sqB)); have n2_ := Aside0.mk (zd (g := gb147) (o := .cells #[.int .i64 0, .slice none 0 0] 27 (0, 0)) (sqK BK147.out) hb); have n3_ := Aside0.mk (zd (g := gb150) (o := .cells #[.int .i64 a0, .slice Ao34 x151001_2.length co34] 27 (0, 0)) (sqK BK150.out) hb); have n4_ := Aside0.mk (ze sqB hb); clear HO_151001; clear BK147; clear BK150; clear HB; have HO_151001 := n0_; have HO162 := n1_; have BK147 := n2_; have BK150 := n3_; have HB := n4_; clear n0_ n1_ n2_ n3_ n4_; (try clear hb); (try clear hb2); (try clear hk); (try clear hi); (try clear ho0); obtain ⟨Ao36, co36, eo36⟩ := Kd.qc HO162.out; subst eo36) | (go_at_call 55; (try simp only [zl, zo]); (with_reducible refine (zV.calls k2 _ _ t160 _ _ l1 true _ ?side1 ?side2 ?side3 ?side4 A30.out).mono ?_); (case side1 => exact sqC (Kd.zm HO162.out).2.2); (case side2 => exact (Kd.zm HO162.out).2.1); (case side3 => exact sqC (Kd.zH HR1.out HB.out)); (case side4 => exact HC1.out); rintro e w' ⟨rfl, ⟨nd, rfl⟩⟩; (try first | exact ⟨rfl, _, World.drewN_drewN _ _ _⟩ | exact ⟨rfl, _, Eq.trans (World.drewN_drewN _ _ _) (congrArg (World.drewN _) (Nat.add_assoc _ _ _))⟩); have hcz37_0 : w35.cell? ⟨gb150, 0, none⟩ = some (.int .i64 a0) := (za BK150.out 0).trans rfl; have hcz37_1 : w35.cell? ⟨gb150, 1, none⟩ = some (.slice Ao34 x151001_2.length co34) := (za BK150.out 1).trans rfl; have hfz37_0 := zb BK150.out 0; have hfz37_1 := zb BK150.out 1; have hcz38_0 : w35.cell? ⟨gb147, 0, none⟩ = some (.int .i64 0) := (za BK147.out 0).trans rfl; have hcz38_1 : w35.cell? ⟨gb147, 1, none⟩ = some (.slice none 0 0) := (za BK147.out 1).trans rfl; have hfz38_0 := zb BK147.out 0; have hfz38_1 := zb BK147.out 1)))
        refine bodyPost_ret (qq rfl _ _ gb147 27 #[.int .i64 a0, .slice Ao34 x151001_2.length co34] (0, 0) _ rfl (by refine sqK ?_; refine zM (cs := #[.int .i64 a0, .slice none 0 0]) ?_ 1 _ rfl; refine sqK ?_; refine zM (cs := #[.int .i64 0, .slice none 0 0]) ?_ 0 _ rfl; refine sqK ?_; exact BK147.out) Try.underlying27 rfl (by kernel_rfl)) rfl ?_
        exact ⟨_, sqE, by refine sqR ?_; exact Kd.zN (Kd.zW (p := ⟨gb147, 1, none⟩) (Kd.zW (p := ⟨gb147, 0, none⟩) (Kd.qa HO_151001.out BK147.out (by decide)) (fun _ hk => hk.2) (.int .i64 a0)) (fun _ hk => hk.2) (.slice Ao34 x151001_2.length co34)) (fun _ hk => trivial), sqB⟩
       ·replace c31 := Bool.eq_false_iff.mpr c31
        subst c31
        have H1 : (some (0, ([] : List Int), false)) = some (r1, r2, r3) := by rw [if_neg (show ¬ (false = true) by decide)] at H; exact H
        clear H
        have H := H1
        clear H1
        simp only [Option.some.injEq, Prod.mk.injEq] at H
        obtain ⟨rfl, rfl, rfl⟩ := H
        go_wp2_with (first | (go_at_call 43; (try simp only [zl, zo]); (with_reducible refine (zz.calls a0 t151 _ A13.out).mono ?_); rintro e w' ⟨rfl, ⟨nd, rfl⟩⟩; (try first | exact ⟨rfl, _, World.drewN_drewN _ _ _⟩ | exact ⟨rfl, _, Eq.trans (World.drewN_drewN _ _ _) (congrArg (World.drewN _) (Nat.add_assoc _ _ _))⟩); have hnb39 := NB150_147.out; have hnc39 := NB147_150.out; have hcz40_0 : wr.cell? ⟨gb150, 0, none⟩ = some (.int .i64 a0) := (za BK150.out 0).trans rfl; have hcz40_1 : wr.cell? ⟨gb150, 1, none⟩ = some (u151001) := (za BK150.out 1).trans rfl; have hfz40_0 := zb BK150.out 0; have hfz40_1 := zb BK150.out 1; obtain ⟨Ao41, co41, eo41⟩ := Kd.qc HO_151001.out; subst eo41) | (go_at_call 19; (try simp only [zl, zo]); (with_reducible refine (zw.calls k2 a0 _ _ x151001_2 t160 _ ?side1 ?side2 A29.out).mono ?_); (case side1 => exact sqC (Kd.zm HO_151001.out).2.2); (case side2 => exact (Kd.zm HO_151001.out).2.1); rintro e w42 ⟨v161, rfl, ho0, hb⟩; have n0_ := Aside0.mk (Kd.qi (sqR HO_151001.out) (Kd.qB ho0) hb); have n1_ := Aside0.mk (Kd.qf (Kd.qC ho0 (Kd.ju (sqR HO_151001.out))) (zt sqB)); have n2_ := Aside0.mk (zd (g := gb147) (o := .cells #[.int .i64 0, .slice none 0 0] 27 (0, 0)) (sqK BK147.out) hb); have n3_ := Aside0.mk (zd (g := gb150) (o := .cells #[.int .i64 a0, .slice Ao41 x151001_2.length co41] 27 (0, 0)) (sqK BK150.out) hb); have n4_ := Aside0.mk (ze sqB hb); clear HO_151001; clear BK147; clear BK150; clear HB; have HO_151001 := n0_; have HO162 := n1_; have BK147 := n2_; have BK150 := n3_; have HB := n4_; clear n0_ n1_ n2_ n3_ n4_; (try clear hb); (try clear hb2); (try clear hk); (try clear hi); (try clear ho0); obtain ⟨Ao43, co43, eo43⟩ := Kd.qc HO162.out; subst eo43) | (go_at_call 55; (try simp only [zl, zo]); (with_reducible refine (zV.calls k2 _ _ t160 _ _ l1 false _ ?side1 ?side2 ?side3 ?side4 A30.out).mono ?_); (case side1 => exact sqC (Kd.zm HO162.out).2.2); (case side2 => exact (Kd.zm HO162.out).2.1); (case side3 => exact sqC (Kd.zH HR1.out HB.out)); (case side4 => exact HC1.out); rintro e w' ⟨rfl, ⟨nd, rfl⟩⟩; (try first | exact ⟨rfl, _, World.drewN_drewN _ _ _⟩ | exact ⟨rfl, _, Eq.trans (World.drewN_drewN _ _ _) (congrArg (World.drewN _) (Nat.add_assoc _ _ _))⟩); have hcz44_0 : w42.cell? ⟨gb147, 0, none⟩ = some (.int .i64 0) := (za BK147.out 0).trans rfl; have hcz44_1 : w42.cell? ⟨gb147, 1, none⟩ = some (.slice none 0 0) := (za BK147.out 1).trans rfl; have hfz44_0 := zb BK147.out 0; have hfz44_1 := zb BK147.out 1))
        repeat (go_quiet (first | (go_at_call 43; (try simp only [zl, zo]); (with_reducible refine (zz.calls a0 t151 _ A13.out).mono ?_); rintro e w' ⟨rfl, ⟨nd, rfl⟩⟩; (try first | exact ⟨rfl, _, World.drewN_drewN _ _ _⟩ | exact ⟨rfl, _, Eq.trans (World.drewN_drewN _ _ _) (congrArg (World.drewN _) (Nat.add_assoc _ _ _))⟩); have hnb39 := NB150_147.out; have hnc39 := NB147_150.out; have hcz40_0 : wr.cell? ⟨gb150, 0, none⟩ = some (.int .i64 a0) := (za BK150.out 0).trans rfl; have hcz40_1 : wr.cell? ⟨gb150, 1, none⟩ = some (u151001) := (za BK150.out 1).trans rfl; have hfz40_0 := zb BK150.out 0; have hfz40_1 := zb BK150.out 1; obtain ⟨Ao41, co41, eo41⟩ := Kd.qc HO_151001.out; subst eo41) | (go_at_call 19; (try simp only [zl, zo]); (with_reducible refine (zw.calls k2 a0 _ _ x151001_2 t160 _ ?side1 ?side2 A29.out).mono ?_); (case side1 => exact sqC (Kd.zm HO_151001.out).2.2); (case side2 => exact (Kd.zm HO_151001.out).2.1); rintro e w42 ⟨v161, rfl, ho0, hb⟩; have n0_ := Aside0.mk (Kd.qi (sqR HO_151001.out) (Kd.qB ho0) hb); have n1_ := Aside0.mk (Kd.qf (Kd.qC ho0 (Kd.ju (sqR HO_151001.out))) (zt sqB)); have n2_ := Aside0.mk (zd (g := gb147) (o := .cells #[.int .i64 0, .slice none 0 0] 27 (0, 0)) (sqK BK147.out) hb); have n3_ := Aside0.mk (zd (g := gb150) (o := .cells #[.int .i64 a0, .slice Ao41 x151001_2.length co41] 27 (0, 0)) (sqK BK150.out) hb); have n4_ := Aside0.mk (ze sqB hb); clear HO_151001; clear BK147; clear BK150; clear HB; have HO_151001 := n0_; have HO162 := n1_; have BK147 := n2_; have BK150 := n3_; have HB := n4_; clear n0_ n1_ n2_ n3_ n4_; (try clear hb); (try clear hb2); (try clear hk); (try clear hi); (try clear ho0); obtain ⟨Ao43, co43, eo43⟩ := Kd.qc HO162.out; subst eo43) | (go_at_call 55; (try simp only [zl, zo]); (with_reducible refine (zV.calls k2 _ _ t160 _ _ l1 false _ ?side1 ?side2 ?side3 ?side4 A30.out).mono ?_); (case side1 => exact sqC (Kd.zm HO162.out).2.2); (case side2 => exact (Kd.zm HO162.out).2.1); (case side3 => exact sqC (Kd.zH HR1.out HB.out)); (case side4 => exact HC1.out); rintro e w' ⟨rfl, ⟨nd, rfl⟩⟩; (try first | exact ⟨rfl, _, World.drewN_drewN _ _ _⟩ | exact ⟨rfl, _, Eq.trans (World.drewN_drewN _ _ _) (congrArg (World.drewN _) (Nat.add_assoc _ _ _))⟩); have hcz44_0 : w42.cell? ⟨gb147, 0, none⟩ = some (.int .i64 0) := (za BK147.out 0).trans rfl; have hcz44_1 : w42.cell? ⟨gb147, 1, none⟩ = some (.slice none 0 0) := (za BK147.out 1).trans rfl; have hfz44_0 := zb BK147.out 0; have hfz44_1 := zb BK147.out 1)); try go_wp2_with (first | (go_at_call 43; (try simp only [zl, zo]); (with_reducible refine (zz.calls a0 t151 _ A13.out).mono ?_); rintro e w' ⟨rfl, ⟨nd, rfl⟩⟩; (try first | exact ⟨rfl, _, World.drewN_drewN _ _ _⟩ | exact ⟨rfl, _, Eq.trans (World.drewN_drewN _ _ _) (congrArg (World.drewN _) (Nat.add_assoc _ _ _))⟩); have hnb39 := NB150_147.out; have hnc39 := NB147_150.out; have hcz40_0 : wr.cell? ⟨gb150, 0, none⟩ = some (.int .i64 a0) := (za BK150.out 0).trans rfl; have hcz40_1 : wr.cell? ⟨gb150, 1, none⟩ = some (u151001) := (za BK150.out 1).trans rfl; have hfz40_0 := zb BK150.out 0; have hfz40_1 := zb BK150.out 1; obtain ⟨Ao41, co41, eo41⟩ := Kd.qc HO_151001.out; subst eo41) | (go_at_call 19; (try simp only [zl, zo]); (with_reducible refine (zw.calls k2 a0 _ _ x151001_2 t160 _ ?side1 ?side2 A29.out).mono ?_); (case side1 => exact sqC (Kd.zm HO_151001.out).2.2); (case side2 => exact (Kd.zm HO_151001.out).2.1); rintro e w42 ⟨v161, rfl, ho0, hb⟩; have n0_ := Aside0.mk (Kd.qi (sqR HO_151001.out) (Kd.qB ho0) hb); have n1_ := Aside0.mk (Kd.qf (Kd.qC ho0 (Kd.ju (sqR HO_151001.out))) (zt sqB)); have n2_ := Aside0.mk (zd (g := gb147) (o := .cells #[.int .i64 0, .slice none 0 0] 27 (0, 0)) (sqK BK147.out) hb); have n3_ := Aside0.mk (zd (g := gb150) (o := .cells #[.int .i64 a0, .slice Ao41 x151001_2.length co41] 27 (0, 0)) (sqK BK150.out) hb); have n4_ := Aside0.mk (ze sqB hb); clear HO_151001; clear BK147; clear BK150; clear HB; have HO_151001 := n0_; have HO162 := n1_; have BK147 := n2_; have BK150 := n3_; have HB := n4_; clear n0_ n1_ n2_ n3_ n4_; (try clear hb); (try clear hb2); (try clear hk); (try clear hi); (try clear ho0); obtain ⟨Ao43, co43, eo43⟩ := Kd.qc HO162.out; subst eo43) | (go_at_call 55; (try simp only [zl, zo]); (with_reducible refine (zV.calls k2 _ _ t160 _ _ l1 false _ ?side1 ?side2 ?side3 ?side4 A30.out).mono ?_); (case side1 => exact sqC (Kd.zm HO162.out).2.2); (case side2 => exact (Kd.zm HO162.out).2.1); (case side3 => exact sqC (Kd.zH HR1.out HB.out)); (case side4 => exact HC1.out); rintro e w' ⟨rfl, ⟨nd, rfl⟩⟩; (try first | exact ⟨rfl, _, World.drewN_drewN _ _ _⟩ | exact ⟨rfl, _, Eq.trans (World.drewN_drewN _ _ _) (congrArg (World.drewN _) (Nat.add_assoc _ _ _))⟩); have hcz44_0 : w42.cell? ⟨gb147, 0, none⟩ = some (.int .i64 0) := (za BK147.out 0).trans rfl; have hcz44_1 : w42.cell? ⟨gb147, 1, none⟩ = some (.slice none 0 0) := (za BK147.out 1).trans rfl; have hfz44_0 := zb BK147.out 0; have hfz44_1 := zb BK147.out 1)))
        refine bodyPost_ret (qq rfl _ _ gb147 27 #[.int .i64 0, .slice none 0 0] (0, 0) _ rfl (by refine sqK ?_; refine zM (cs := #[.int .i64 0, .slice none 0 0]) ?_ 1 _ rfl; refine sqK ?_; refine zM (cs := #[.int .i64 0, .slice none 0 0]) ?_ 0 _ rfl; refine sqK ?_; exact BK147.out) Try.underlying27 rfl (by kernel_rfl)) rfl ?_
        exact ⟨_, sqE, sqN, sqB⟩

end Go.Proofs.Ytmeopnlkddflaaa.F
end
section
namespace Go.Proofs.Ytmeopnlkddflaaa.F
open Go.RowKit Go.Proofs.YtmeopnlkddflaaaW.PrintWords Go.Proofs.YtmeopnlkddflaaaW.PrintLast Go.Proofs.YtmeopnlkddflaaaW.PrintMore
set_option linter.unusedSimpArgs false
set_option linter.unusedVariables false
/-- Function g, bound to lb, answers as1 the partial function q says, in every world in which all that lay in w lies unturned. -/
def y8 (g : Nat) (lb : Array Value) (q : Int → Option Bool) (w : World) : Prop :=
  ∀ (W : World) (x : Int) (r : Bool), q x = some r → Below w.heap.size w W → Calls Try.prog g (#[.int .i64 x] ++ lb) W fun e w' => e = .returned (.bool r) ∧ Below W.heap.size W w'
/-- The place of the first element of which q says yes, counted from i; -1 where there is none. -/
def yV (q : Int → Option Bool) : Int → List Int → Option Int
  | _, [] => some (-1)
  | i, x :: t => (q x).bind fun b => if b = true then some i else yV q (i + 1) t
def yK (q : Int → Option Bool) : List Int → Option Bool
  | [] => some false
  | x :: t => (q x).bind fun b => if b = true then some true else yK q t
theorem Zd (q : Int → Option Bool) : ∀ (l : List Int) (i : Int) (r : Bool), 0 ≤ i → yK q l = some r → ∃ m, yV q i l = some m ∧ decide (0 ≤ m) = r
  | [], i, r, _, h => by
    simp only [yK, Option.some.injEq] at h
    exact ⟨-1, rfl, by rw [← h]; rfl⟩
  | x :: t, i, r, h0, h => by
    simp only [yK, Option.bind_eq_some_iff] at h
    obtain ⟨b, hb, h⟩ := h
    cases b with
    | true => simp only [if_true, Option.some.injEq] at h; exact ⟨i, by simp [yV, hb], by rw [← h]; simpa using h0⟩
    | false =>
      simp only [Bool.false_eq_true, if_false] at h
      obtain ⟨m, h1, h2⟩ := Zd q t (i + 1) r (by omega) h
      exact ⟨m, by simp [yV, hb, h1], h2⟩
theorem vQ (q : Int → Option Bool) (g : Nat) (lb : Array Value) (eg : ∀ args w, (callFunc g args).run Try.prog w = .ok (.enter g args) w) (A0 : Option Addr) (c0 : Nat) (l0 : List Int) (r : Int) (w : World)
    (hp : y8 g lb q w) (hr0 : Kd.C (Kd.int .i64) w A0 l0.length l0) (hc0 : l0.length ≤ c0) (hs : l0.length ≤ 17592186044416) (h : yV q 0 l0 = some r) :
    Calls Try.prog 95 #[.slice A0 l0.length c0, .func (.func g) #[] lb] w fun e w' => e = .returned (.int .i64 r) ∧ Below w.heap.size w w' := by
  have HR0 := Aside0.mk hr0
  have HC0 := Aside0.mk hc0
  have HP := Aside0.mk hp
  have H0 := Aside0.mk h
  have HS := Aside0.mk hs
  clear hr0 hc0 hp h hs
  go_enter Try.func95, Try.ntmps95
  go_wp2
  go_loopg [8] l0.length (fun kq v8 w' => ∃ (i : Int), v8 = .int .i64 i ∧ Aside0 (0 ≤ i ∧ i ≤ l0.length) ∧ Aside0 (yV q i (l0.drop i.toNat) = some r) ∧ Aside0 (l0.length - i.toNat ≤ kq) ∧ Aside0 (Below w.heap.size w w'))
  case atStart => exact ⟨0, rfl, ⟨Int.le_refl _, by omega⟩, ⟨by simpa using H0.out⟩, ⟨by simp⟩, ⟨Below.refl _ _⟩⟩
  case round =>
    clear H0
    obtain ⟨i, rfl, HI, HD, HK, HB⟩ := hrel
    by_cases c3 : i < (l0.length : Int)
    · have hi0 := HI.out.1
      have hi : i.toNat < l0.length := by omega
      have hi1 : (i + 1).toNat = i.toNat + 1 := by omega
      have c3b0 : decide (i < (l0.length : Int)) = true := decide_eq_true c3
      obtain ⟨ad, ead, hx⟩ := Kd.zG (Kd.zH HR0.out HB.out) i hi0 c3
      cases ead
      have hd := HD.out
      rw [List.drop_eq_getElem_cons hi] at hd
      simp only [yV, Option.bind_eq_some_iff] at hd
      obtain ⟨b, hb, hd⟩ := hd
      have hrd : rd l0 i = l0[i.toNat] := by simp [rd, List.getElem?_eq_getElem hi]
      rw [← hrd] at hb
      have HD' := Aside0.mk hd
      have HBb := Aside0.mk hb
      have HI1 := Aside0.mk hi1
      have HI2 := Aside0.mk (show 0 ≤ i ∧ i + 1 ≤ l0.length by omega)
      have p7 := eq_true hi0
      have q7 := eq_true c3
      clear hd hb hrd HD hi hi0 c3 hi1
      have hcall := HP.out _ _ _ HBb.out HB.out
      cases b with
      | true =>
        have hr := HD'.out
        simp only [if_true, Option.some.injEq] at hr
        subst hr
        clear HD'
        go_wp2
        refine hcall.mono ?_
        rintro e w' ⟨rfl, hb⟩
        have n0_ := Aside0.mk (ze HB.out hb)
        clear HB hb hx hcall; have HB := n0_; clear n0_
        go_wp2
        go_ret
        exact ⟨rfl, HB.out⟩
      | false =>
        have hr := HD'.out
        simp only [Bool.false_eq_true, if_false] at hr
        have HD2 := Aside0.mk hr
        clear HD' hr
        go_wp2
        refine hcall.mono ?_
        rintro e w' ⟨rfl, hb⟩
        have n0_ := Aside0.mk (ze HB.out hb)
        clear HB hb hx hcall; have HB := n0_; clear n0_
        go_wp2
        go_roundg (l0.length - (i.toNat + 1))
        case measure => have := HK.out; have := HI2.out; omega
        case rel => exact ⟨i + 1, by rw [show wrap64 (i + 1) = i + 1 from by unfold wrap64; have := HI2.out; have := HS.out; omega], ⟨by have := HI2.out; omega⟩, ⟨by rw [HI1.out]; exact HD2.out⟩, ⟨by rw [HI1.out]; exact Nat.le_refl _⟩, HB⟩
    · have c3b0 : decide (i < (l0.length : Int)) = false := decide_eq_false c3
      have hi : i.toNat = l0.length := by have := HI.out; omega
      have hd := HD.out
      rw [hi, List.drop_length] at hd
      simp only [yV, Option.some.injEq] at hd
      subst hd
      clear HD hi
      go_wp2
      go_ret
      exact ⟨rfl, HB.out⟩
theorem jn (q : Int → Option Bool) (g : Nat) (lb : Array Value) (eg : ∀ args w, (callFunc g args).run Try.prog w = .ok (.enter g args) w) (A0 : Option Addr) (c0 : Nat) (l0 : List Int) (r : Bool) (w : World)
    (hp : y8 g lb q w) (hr0 : Kd.C (Kd.int .i64) w A0 l0.length l0) (hc0 : l0.length ≤ c0) (hs : l0.length ≤ 17592186044416) (h : yK q l0 = some r) :
    Calls Try.prog 84 #[.slice A0 l0.length c0, .func (.func g) #[] lb] w fun e w' => e = .returned (.bool r) ∧ Below w.heap.size w w' := by
  obtain ⟨m, hm, rfl⟩ := Zd q l0 0 r (by decide) h
  have hcall := vQ q g lb eg A0 c0 l0 m
  have HR0 := Aside0.mk hr0
  have HC0 := Aside0.mk hc0
  have HP := Aside0.mk hp
  have H0 := Aside0.mk hm
  have HS := Aside0.mk hs
  clear hr0 hc0 hp h hm hs
  go_enter Try.func84, Try.ntmps84
  go_wp2_with (go_at_call 95; refine (hcall _ HP.out HR0.out HC0.out HS.out H0.out).mono ?_; rintro e w' ⟨rfl, hb⟩)
  go_ret
  exact ⟨rfl, hb⟩
end Go.Proofs.Ytmeopnlkddflaaa.F
end
section
namespace Go.Proofs.Ytmeopnlkddflaaa.F
open Go.RowKit Go.Proofs.YtmeopnlkddflaaaW.PrintWords Go.Proofs.YtmeopnlkddflaaaW.PrintLast Go.Proofs.YtmeopnlkddflaaaW.PrintMore
set_option linter.unusedSimpArgs false
set_option linter.unusedVariables false
/-- Does f put for e make a base of a? -/
def zh.q (k : Nat) (l : List Int) (a e : Int) (x : Int) : Option Bool :=
  if 0 ≤ e then (if 0 ≤ x then qV.f k l (Go.bits .or .i64 (Go.bits .andNot .i64 a (shl .i64 1 e)) (shl .i64 1 x)) else none) else none
mutual
def zh.l0 : Nat → List Int → Int → Option (Int × Int × Int × Bool)
  | 0, _, _ => none
  | k + 1, l, x21 => if x21 < (l.length : Int) then (if 0 ≤ x21 then zh.l1 k l x21 0 else none) else some (0, 0, 0, false)
def zh.l1 : Nat → List Int → Int → Int → Option (Int × Int × Int × Bool)
  | 0, _, _, _ => none
  | k + 1, l, x21, x28 => if x28 < (l.length : Int) then (if 0 ≤ x28 then ((zA.f k (Go.bits .andNot .i64 (rd l x21) (rd l x28))).bind fun es => zh.l2 k l x21 x28 es 0) else none) else zh.l0 k l (wrap64 (x21 + 1))
def zh.l2 : Nat → List Int → Int → Int → List Int → Int → Option (Int × Int × Int × Bool)
  | 0, _, _, _, _, _ => none
  | k + 1, l, x21, x28, es, x37 =>
    if x37 < (es.length : Int) then
      (if 0 ≤ x37 then ((zA.f k (Go.bits .andNot .i64 (rd l x28) (rd l x21))).bind fun fs => (if fs.length ≤ 17592186044416 then ((yK (zh.q k l (rd l x21) (rd es x37)) fs).bind fun t =>
        if t = true then zh.l2 k l x21 x28 es (wrap64 (x37 + 1)) else some (rd l x21, rd l x28, rd es x37, true)) else none)) else none)
    else zh.l1 k l x21 (wrap64 (x28 + 1))
end
def zh.f (k : Nat) (a0_0 : Int) (l0_1 : List Int) : Option (Int × Int × Int × Bool) :=
  (zB.f k a0_0 l0_1).bind fun t => if t = true then zh.l0 k l0_1 0 else some (0, 0, 0, false)
theorem zh.pred (k : Nat) (l : List Int) (a e n : Int) (A : Option Addr) (c gm ga ge : Nat) (w : World) (hm : w.heap[gm]? = some (.cells #[.int .i64 n, .slice A l.length c] 27 (0, 0)))
    (ha : w.heap[ga]? = some (.cells #[.int .i64 a] 3 (0, 0))) (he : w.heap[ge]? = some (.cells #[.int .i64 e] 3 (0, 0))) (hr : Kd.C (Kd.int .i64) w A l.length l) (hc : l.length ≤ c) :
    y8 91 #[.pointer (some ⟨gm, 0, none⟩), .pointer (some ⟨ga, 0, none⟩), .pointer (some ⟨ge, 0, none⟩)] (zh.q k l a e) w := by
  intro W x r hq hb
  unfold zh.q at hq
  by_cases h0 : 0 ≤ e
  · rw [if_pos h0] at hq
    by_cases h1 : 0 ≤ x
    · rw [if_pos h1] at hq
      have hc0 : W.cell? ⟨gm, 1, none⟩ = some (.slice A l.length c) := (za (zd hm hb) 1).trans rfl
      have hc1 : W.cell? ⟨ga, 0, none⟩ = some (.int .i64 a) := (za (zd ha hb) 0).trans rfl
      have hc2 : W.cell? ⟨ge, 0, none⟩ = some (.int .i64 e) := (za (zd he hb) 0).trans rfl
      have HR := Aside0.mk (Kd.zH hr hb)
      have HC := Aside0.mk hc
      have hu := Try.underlying27
      obtain ⟨j1, hj1⟩ : ∃ j_ : Int, (shl .i64 1 e) = j_ := ⟨_, rfl⟩
      obtain ⟨j2, hj2⟩ : ∃ j_ : Int, (shl .i64 1 x) = j_ := ⟨_, rfl⟩
      rw [hj1, hj2] at hq
      have H := Aside0.mk hq
      clear hq hm ha he hr hc hb
      have hj1_ : (IntKind.i64.wrap (1 * 2 ^ min e.toNat 64)) = j1 := hj1
      have hj1u : (IntKind.i64.wrap (2 ^ min e.toNat 64)) = j1 := by have h_ := hj1_; rw [Int.one_mul] at h_; exact h_
      have hj1y : (wrap64 (1 * 2 ^ min e.toNat 64)) = j1 := (zl _).symm.trans hj1_
      have hj2_ : (IntKind.i64.wrap (1 * 2 ^ min x.toNat 64)) = j2 := hj2
      have hj2u : (IntKind.i64.wrap (2 ^ min x.toNat 64)) = j2 := by have h_ := hj2_; rw [Int.one_mul] at h_; exact h_
      have hj2y : (wrap64 (1 * 2 ^ min x.toNat 64)) = j2 := (zl _).symm.trans hj2_
      have c0b0 : decide (0 ≤ e) = true := decide_eq_true h0
      have c1b0 : decide (0 ≤ x) = true := decide_eq_true h1
      replace h0 := eq_true h0
      replace h1 := eq_true h1
      go_enter Try.func91, Try.ntmps91
      go_wp2
      repeat (go_quiet ((go_at_call 92; (try simp only [zl, zo]); (with_reducible refine (qV.calls k _ _ l _ r _ ?side1 HC.out H.out).mono ?_); (case side1 => repeat (first | exact HR.out | (with_reducible refine Kd.vX ?_ _) | (with_reducible refine Kd.yQ ?_))); rintro e w' ⟨rfl, ⟨nd, rfl⟩⟩; (try first | exact ⟨rfl, _, World.drewN_drewN _ _ _⟩ | exact ⟨rfl, _, Eq.trans (World.drewN_drewN _ _ _) (congrArg (World.drewN _) (Nat.add_assoc _ _ _))⟩))); try go_wp2)
      go_ret
      exact ⟨rfl, by repeat (first | exact Below.refl _ _ | apply qb | apply zD)⟩
    · rw [if_neg h1] at hq; exact absurd hq (by simp)
  · rw [if_neg h0] at hq; exact absurd hq (by simp)
theorem zh.calls (k : Nat) (a0_0 : Int) (A0_1 : Option Addr) (c0_1 : Nat) (l0_1 : List Int) (r1 : Int) (r2 : Int) (r3 : Int) (r4 : Bool) (w : World) (hr0_1 : Kd.C (Kd.int .i64) w A0_1 l0_1.length l0_1) (hc0_1 : l0_1.length ≤ c0_1) (h : zh.f k a0_0 l0_1 = some (r1, r2, r3, r4)) :
    Calls Try.prog 73 #[.agg #[.int .i64 a0_0, .slice A0_1 l0_1.length c0_1]] w fun e w' => e = .returned (.tuple #[.agg #[.int .i64 r1, .int .i64 r2, .int .i64 r3], .bool r4]) ∧ Below w.heap.size w w' := by
  have hum := Try.underlying27
  have huf := Try.underlying53
  have HR := Aside0.mk hr0_1
  have HC := Aside0.mk hc0_1
  have HB := Aside0.mk (Below.refl w.heap.size w)
  clear hr0_1 hc0_1
  unfold zh.f at h
  obtain ⟨t0, ht0, h⟩ := Option.bind_eq_some_iff.mp h
  have HT := Aside0.mk ht0
  clear ht0
  have H := Aside0.mk h
  clear h
  cases t0 with
  | false =>
    go_enter Try.func73, Try.ntmps73
    go_wp2_with (first
      | ((with_reducible refine zr (N := 1) rfl ?_); refine zq ?hg (N := 1) ?hd (cs := #[.int .i64 a0_0, .slice A0_1 l0_1.length c0_1]) (t := 27) ?hr ?_; (case hd => rfl); (case hg => rfl); (case hr => exact sqG); intro gm hg w4 hbox hb; have HB1 := Aside0.mk hb; have BKm := Aside0.mk hbox; have HG1 := Aside0.mk hg; clear hb hbox hg)
      | ((with_reducible refine zr (N := 2) rfl ?_); refine zq ?hg (N := 2) ?hd (cs := #[.int .i64 0, .int .i64 0, .int .i64 0]) (t := 53) ?hr ?_; (case hd => rfl); (case hg => rfl); (case hr => exact sqG); intro gr hg w5 hbox hb; have HG2 := Aside0.mk hg; have HGr := Aside0.mk (show w.heap.size ≤ gr from by rw [hg]; exact HB1.out.size); have HNE := Aside0.mk (show gm ≠ gr from by rw [hg]; exact Nat.ne_of_lt (zR BKm.out)); have HS := Aside0.mk (FFS.mk (n := a0_0) (A := A0_1) (c := c0_1) (l := l0_1) (gm := gm) (gr := gr) (w0 := w) (zd BKm.out hb) hbox (Kd.zH HR.out (ze HB1.out hb)) (ze HB1.out hb)); clear BKm HB1 hb hbox hg; have hcz0 : w5.cell? ⟨gm, 0, none⟩ = some (.int .i64 a0_0) := (za HS.out.m 0).trans rfl; have hcz1 : w5.cell? ⟨gm, 1, none⟩ = some (.slice A0_1 l0_1.length c0_1) := (za HS.out.m 1).trans rfl)
      | ((with_reducible refine zg (f := 74) rfl ?_); refine zx (some 15) rfl rfl Try.func74 (by kernel_rfl) rfl #[.int .i64 a0_0, .slice A0_1 l0_1.length c0_1] rfl (by (try simp only [List.map_toArray, List.map_cons, List.map_nil]); first | done | rfl) ?_; (with_reducible refine (zB.calls k a0_0 _ _ l0_1 false _ HS.out.C HC.out HT.out).mono ?_); rintro e w' ⟨rfl, ⟨nd, rfl⟩⟩; refine ⟨_, rfl, ?_⟩; generalize hw6 : w5.drewN nd = w6; have HS6 := Aside0.mk (HS.out.below (w2 := w6) (by rw [← hw6]; exact zD (Below.refl _ _) nd)); clear hw6 HS hcz0 hcz1; have HS := HS6; clear HS6; have hne := HNE.out; have hne2 := HNE.out.symm; have hcr0 : w6.cell? ⟨gr, 0, none⟩ = some (.int .i64 0) := (za HS.out.r 0).trans rfl; have hcr1 : w6.cell? ⟨gr, 1, none⟩ = some (.int .i64 0) := (za HS.out.r 1).trans rfl; have hcr2 : w6.cell? ⟨gr, 2, none⟩ = some (.int .i64 0) := (za HS.out.r 2).trans rfl; have hfr0 := zb HS.out.r 0; have hfr1 := zb HS.out.r 1; have hfr2 := zb HS.out.r 2))
    refine bodyPost_ret (qq rfl _ _ gr 53 #[.int .i64 0, .int .i64 0, .int .i64 0] (0, 0) _ rfl (by refine zM (cs := #[.int .i64 0, .int .i64 0, .int .i64 0]) ?_ 2 _ rfl; refine zM (cs := #[.int .i64 0, .int .i64 0, .int .i64 0]) ?_ 1 _ rfl; refine zM (cs := #[.int .i64 0, .int .i64 0, .int .i64 0]) ?_ 0 _ rfl; exact HS.out.r) Try.underlying53 rfl (by kernel_rfl)) rfl ?_
    have hh := H.out
    simp only [Bool.false_eq_true, if_false, Option.some.injEq, Prod.mk.injEq] at hh
    obtain ⟨rfl, rfl, rfl, rfl⟩ := hh
    exact ⟨rfl, by repeat (first | exact HS.out.B | refine qh ?_ HGr.out)⟩
  | true =>
    go_enter Try.func73, Try.ntmps73
    go_wp2_with (first
      | ((with_reducible refine zr (N := 1) rfl ?_); refine zq ?hg (N := 1) ?hd (cs := #[.int .i64 a0_0, .slice A0_1 l0_1.length c0_1]) (t := 27) ?hr ?_; (case hd => rfl); (case hg => rfl); (case hr => exact sqG); intro gm hg w4 hbox hb; have HB1 := Aside0.mk hb; have BKm := Aside0.mk hbox; have HG1 := Aside0.mk hg; clear hb hbox hg)
      | ((with_reducible refine zr (N := 2) rfl ?_); refine zq ?hg (N := 2) ?hd (cs := #[.int .i64 0, .int .i64 0, .int .i64 0]) (t := 53) ?hr ?_; (case hd => rfl); (case hg => rfl); (case hr => exact sqG); intro gr hg w5 hbox hb; have HG2 := Aside0.mk hg; have HGr := Aside0.mk (show w.heap.size ≤ gr from by rw [hg]; exact HB1.out.size); have HNE := Aside0.mk (show gm ≠ gr from by rw [hg]; exact Nat.ne_of_lt (zR BKm.out)); have HS := Aside0.mk (FFS.mk (n := a0_0) (A := A0_1) (c := c0_1) (l := l0_1) (gm := gm) (gr := gr) (w0 := w) (zd BKm.out hb) hbox (Kd.zH HR.out (ze HB1.out hb)) (ze HB1.out hb)); clear BKm HB1 hb hbox hg; have hcz0 : w5.cell? ⟨gm, 0, none⟩ = some (.int .i64 a0_0) := (za HS.out.m 0).trans rfl; have hcz1 : w5.cell? ⟨gm, 1, none⟩ = some (.slice A0_1 l0_1.length c0_1) := (za HS.out.m 1).trans rfl)
      | ((with_reducible refine zg (f := 74) rfl ?_); refine zx (some 15) rfl rfl Try.func74 (by kernel_rfl) rfl #[.int .i64 a0_0, .slice A0_1 l0_1.length c0_1] rfl (by (try simp only [List.map_toArray, List.map_cons, List.map_nil]); first | done | rfl) ?_; (with_reducible refine (zB.calls k a0_0 _ _ l0_1 true _ HS.out.C HC.out HT.out).mono ?_); rintro e w' ⟨rfl, ⟨nd, rfl⟩⟩; refine ⟨_, rfl, ?_⟩; generalize hw6 : w5.drewN nd = w6; have HS6 := Aside0.mk (HS.out.below (w2 := w6) (by rw [← hw6]; exact zD (Below.refl _ _) nd)); clear hw6 HS hcz0 hcz1; have HS := HS6; clear HS6; have hcz1 : w6.cell? ⟨gm, 1, none⟩ = some (.slice A0_1 l0_1.length c0_1) := (za HS.out.m 1).trans rfl))
    have H0 := Aside0.mk (show zh.l0 k l0_1 0 = some (r1, r2, r3, r4) by have hh := H.out; simpa using hh)
    clear H hcz1
    go_loopg [21] k (fun kq v21 w' => ∃ (x21 : Int), v21 = .int .i64 x21 ∧ Aside0 (zh.l0 kq l0_1 x21 = some (r1, r2, r3, r4)) ∧ Aside0 (kq ≤ k) ∧ Aside0 (FFS w w' gm gr a0_0 A0_1 c0_1 l0_1))
    case atStart => exact ⟨0, rfl, H0, ⟨Nat.le_refl _⟩, HS⟩
    case round =>
      clear H0 HS HB HG1 HG2
      obtain ⟨x21, rfl, HA, HK1, HS⟩ := hrel
      cases gk with
      | zero => exact absurd HA.out (by simp [zh.l0])
      | succ k1 =>
        have H := HA.out
        clear HA
        simp only [zh.l0] at H
        by_cases c1 : x21 < (l0_1.length : Int)
        · rw [if_pos c1] at H
          by_cases c2 : 0 ≤ x21
          · rw [if_pos c2] at H
            have H1 := Aside0.mk H
            clear H
            have c1b0 : decide (x21 < (l0_1.length : Int)) = true := decide_eq_true c1
            have c2b0 : decide (0 ≤ x21) = true := decide_eq_true c2
            obtain ⟨ad1, e1, hx1⟩ := Kd.zG HS.out.C x21 c2 c1
            cases e1
            replace c1 := eq_true c1
            replace c2 := eq_true c2
            have hcz1 : wr.cell? ⟨gm, 1, none⟩ = some (.slice (some ad1) l0_1.length c0_1) := (za HS.out.m 1).trans rfl
            go_wp2_with (first
              | ((with_reducible refine zr (N := 5) rfl ?_); refine zq ?hg (N := 5) ?hd (cs := #[.int .i64 0]) (t := 3) ?hr ?_; (case hd => rfl); (case hg => rfl); (case hr => exact sqG); intro ga hg w7 hbox hb; have HG3 := Aside0.mk hg; have BKa := Aside0.mk hbox; have HBa := Aside0.mk hb; have hca : w7.cell? ⟨ga, 0, none⟩ = some (.int .i64 0) := (za BKa.out 0).trans rfl; have hfa := zb BKa.out 0; clear hg hbox hb hx1 hcz1)
              | ((with_reducible refine jq (t := 3) (p := 5) rfl ?_); refine ja (t := 3) (p := 5) (v := ?vo_w8) (w1 := (w7.setCell ⟨ga, 0, none⟩ (.int .i64 (rd l0_1 x21)))) ?hg ?ho ?hn ?hr ?_; (case ho => rfl); (case hg => rfl); (case hn => rfl); (case hr => exact sqG); intro w8 hw; have hp_ := yP (v := .int .i64 (rd l0_1 x21)) HG3.out BKa.out HBa.out; rw [← hw] at hp_; have HS8 := Aside0.mk (HS.out.below hp_.2); have BK8 := Aside0.mk hp_.1; clear hp_ hw BKa HBa HG3 HS hca hfa; have HS := HS8; have BKa := BK8; clear HS8 BK8; have hcz1 : w8.cell? ⟨gm, 1, none⟩ = some (.slice (some ad1) l0_1.length c0_1) := (za HS.out.m 1).trans rfl))
            clear hcz1
            go_loopg [28] k1 (fun kq v28 w' => ∃ (x28 : Int), v28 = .int .i64 x28 ∧ Aside0 (zh.l1 kq l0_1 x21 x28 = some (r1, r2, r3, r4)) ∧ Aside0 (kq ≤ k1) ∧ Aside0 (FFS w w' gm gr a0_0 (some ad1) c0_1 l0_1) ∧ Aside0 (w'.heap[ga]? = some (.cells #[.int .i64 (rd l0_1 x21)] 3 (0, 0))))
            case atStart => exact ⟨0, rfl, H1, ⟨Nat.le_refl _⟩, HS, BKa⟩
            case round =>
              clear H1 HS BKa
              obtain ⟨x28, rfl, HA, HK2, HS, BKa⟩ := hrel
              cases gk with
              | zero => exact absurd HA.out (by simp [zh.l1])
              | succ k2 =>
                have H := HA.out
                clear HA
                simp only [zh.l1] at H
                by_cases c3 : x28 < (l0_1.length : Int)
                · rw [if_pos c3] at H
                  by_cases c4 : 0 ≤ x28
                  · rw [if_pos c4] at H
                    obtain ⟨es, hes, H⟩ := Option.bind_eq_some_iff.mp H
                    have H1 := Aside0.mk H
                    have HE := Aside0.mk hes
                    clear H hes
                    have c3b0 : decide (x28 < (l0_1.length : Int)) = true := decide_eq_true c3
                    have c4b0 : decide (0 ≤ x28) = true := decide_eq_true c4
                    obtain ⟨ad2, e2, hx2⟩ := Kd.zG HS.out.C x28 c4 c3
                    cases e2
                    replace c3 := eq_true c3
                    replace c4 := eq_true c4
                    have hca : wr.cell? ⟨ga, 0, none⟩ = some (.int .i64 (rd l0_1 x21)) := (za BKa.out 0).trans rfl
                    go_wp2_with ((with_reducible refine zg (f := 90) rfl ?_); refine zx (some 35) rfl rfl Try.func90 (by kernel_rfl) rfl #[.int .i64 (Go.bits .andNot .i64 (rd l0_1 x21) (rd l0_1 x28))] rfl (by (try simp only [List.map_toArray, List.map_cons, List.map_nil]); first | done | rfl) ?_; (with_reducible refine (zA.calls k2 _ es _ HE.out).mono ?_); rintro e w9 ⟨ve, rfl, ho, hb⟩; refine ⟨_, rfl, ?_⟩; obtain ⟨Ae, ce, ee⟩ := Kd.qc ho; subst ee; have HCE := Aside0.mk (Kd.zm ho).2.2; have HLE := Aside0.mk (Kd.zm ho).2.1; have HS9 := Aside0.mk (HS.out.below hb); have BK9 := Aside0.mk (zd BKa.out hb); clear ho hb HS BKa hx2 hca; have HS := HS9; have BKa := BK9; clear HS9 BK9)
                    go_loopg [37] k2 (fun kq v37 w' => ∃ (x37 : Int), v37 = .int .i64 x37 ∧ Aside0 (zh.l2 kq l0_1 x21 x28 es x37 = some (r1, r2, r3, r4)) ∧ Aside0 (kq ≤ k2) ∧ Aside0 (FFS w w' gm gr a0_0 (some ad1) c0_1 l0_1) ∧ Aside0 (w'.heap[ga]? = some (.cells #[.int .i64 (rd l0_1 x21)] 3 (0, 0))) ∧ Aside0 (Kd.C (Kd.int .i64) w' Ae es.length es))
                    case atStart => exact ⟨0, rfl, H1, ⟨Nat.le_refl _⟩, HS, BKa, HCE⟩
                    case round =>
                      clear H1 HS BKa HCE HE
                      obtain ⟨x37, rfl, HA, HK3, HS, BKa, HCE⟩ := hrel
                      cases gk with
                      | zero => exact absurd HA.out (by simp [zh.l2])
                      | succ k3 =>
                        have H := HA.out
                        clear HA
                        simp only [zh.l2] at H
                        by_cases c5 : x37 < (es.length : Int)
                        · rw [if_pos c5] at H
                          by_cases c6 : 0 ≤ x37
                          · rw [if_pos c6] at H
                            obtain ⟨fs, hfs, H⟩ := Option.bind_eq_some_iff.mp H
                            by_cases c7 : fs.length ≤ 17592186044416
                            · rw [if_pos c7] at H
                              obtain ⟨tt, htt, H⟩ := Option.bind_eq_some_iff.mp H
                              have HF := Aside0.mk hfs
                              have HLF := Aside0.mk c7
                              have HAny := Aside0.mk htt
                              have H1 := Aside0.mk H
                              clear H hfs c7 htt
                              have c5b0 : decide (x37 < (es.length : Int)) = true := decide_eq_true c5
                              have c6b0 : decide (0 ≤ x37) = true := decide_eq_true c6
                              obtain ⟨ad3, e3, hx3⟩ := Kd.zG HCE.out x37 c6 c5
                              cases e3
                              replace c5 := eq_true c5
                              replace c6 := eq_true c6
                              cases tt with
                              | true =>
                                go_wp2_with (first
                                  | ((with_reducible refine zr (N := 9) rfl ?_); refine zq ?hg (N := 9) ?hd (cs := #[.int .i64 0]) (t := 3) ?hr ?_; (case hd => rfl); (case hg => rfl); (case hr => exact sqG); intro ge hg w10 hbox hb; have HG4 := Aside0.mk hg; have BKe := Aside0.mk hbox; have HBe := Aside0.mk hb; have hce : w10.cell? ⟨ge, 0, none⟩ = some (.int .i64 0) := (za BKe.out 0).trans rfl; have hfe := zb BKe.out 0; clear hg hbox hb hx3)
                                  | ((with_reducible refine jq (t := 3) (p := 9) rfl ?_); refine ja (t := 3) (p := 9) (v := ?vo_w11) (w1 := (w10.setCell ⟨ge, 0, none⟩ (.int .i64 (rd es x37)))) ?hg ?ho ?hn ?hr ?_; (case ho => rfl); (case hg => rfl); (case hn => rfl); (case hr => exact sqG); intro w11 hw; have hp_ := yP (v := .int .i64 (rd es x37)) HG4.out BKe.out HBe.out; rw [← hw] at hp_; have HS8 := Aside0.mk (HS.out.below hp_.2); have BK8 := Aside0.mk hp_.1; have BK7 := Aside0.mk (zd BKa.out hp_.2); have HC8 := Aside0.mk (Kd.zH HCE.out hp_.2); clear hp_ hw BKe HBe HG4 HS hce hfe BKa HCE; have HS := HS8; have BKe := BK8; have BKa := BK7; have HCE := HC8; clear HS8 BK8 BK7 HC8; have hca : w11.cell? ⟨ga, 0, none⟩ = some (.int .i64 (rd l0_1 x21)) := (za BKa.out 0).trans rfl)
                                  | ((with_reducible refine zg (f := 90) rfl ?_); refine zx (some 44) rfl rfl Try.func90 (by kernel_rfl) rfl #[.int .i64 (Go.bits .andNot .i64 (rd l0_1 x28) (rd l0_1 x21))] rfl (by (try simp only [List.map_toArray, List.map_cons, List.map_nil]); first | done | rfl) ?_; (with_reducible refine (zA.calls k3 _ fs _ HF.out).mono ?_); rintro e w12 ⟨vf, rfl, ho, hb⟩; refine ⟨_, rfl, ?_⟩; obtain ⟨Af, cf, ef⟩ := Kd.qc ho; subst ef; have HCF := Aside0.mk (Kd.zm ho).2.2; have HLF2 := Aside0.mk (Kd.zm ho).2.1; have HS8 := Aside0.mk (HS.out.below hb); have BK8 := Aside0.mk (zd BKe.out hb); have BK7 := Aside0.mk (zd BKa.out hb); have HC8 := Aside0.mk (Kd.zH HCE.out hb); clear ho hb BKe HS BKa HCE hca; have HS := HS8; have BKe := BK8; have BKa := BK7; have HCE := HC8; clear HS8 BK8 BK7 HC8))
                                refine (jn (zh.q k3 l0_1 (rd l0_1 x21) (rd es x37)) _ _ (enters_of Try.func91 (by kernel_rfl) rfl) _ _ fs true _ (zh.pred k3 l0_1 (rd l0_1 x21) (rd es x37) a0_0 _ c0_1 gm ga ge _ HS.out.m BKa.out BKe.out HS.out.C HC.out) HCF.out HLF2.out HLF.out HAny.out).mono ?_
                                rintro e w13 ⟨rfl, hb⟩
                                have HS8 := Aside0.mk (HS.out.below hb)
                                have BK8 := Aside0.mk (zd BKe.out hb)
                                have BK7 := Aside0.mk (zd BKa.out hb)
                                have HC8 := Aside0.mk (Kd.zH HCE.out hb)
                                clear hb BKe HS BKa HCE HCF
                                have HS := HS8
                                have BKe := BK8
                                have BKa := BK7
                                have HCE := HC8
                                clear HS8 BK8 BK7 HC8
                                go_wp2
                                go_roundg k3
                                case measure => have := HK1.out; have := HK2.out; have := HK3.out; omega
                                case rel => exact ⟨wrap64 (x37 + 1), rfl, ⟨by have hh := H1.out; simpa using hh⟩, ⟨by have := HK3.out; omega⟩, HS, BKa, HCE⟩
                              | false =>
                                have hh := H1.out
                                simp only [Bool.false_eq_true, if_false, Option.some.injEq, Prod.mk.injEq] at hh
                                obtain ⟨rfl, rfl, rfl, rfl⟩ := hh
                                clear H1
                                have hne := HNE.out
                                have hne2 := HNE.out.symm
                                go_wp2_with (first
                                  | ((with_reducible refine zr (N := 9) rfl ?_); refine zq ?hg (N := 9) ?hd (cs := #[.int .i64 0]) (t := 3) ?hr ?_; (case hd => rfl); (case hg => rfl); (case hr => exact sqG); intro ge hg w10 hbox hb; have HG4 := Aside0.mk hg; have BKe := Aside0.mk hbox; have HBe := Aside0.mk hb; have hce : w10.cell? ⟨ge, 0, none⟩ = some (.int .i64 0) := (za BKe.out 0).trans rfl; have hfe := zb BKe.out 0; clear hg hbox hb hx3)
                                  | ((with_reducible refine jq (t := 3) (p := 9) rfl ?_); refine ja (t := 3) (p := 9) (v := ?vo_w11) (w1 := (w10.setCell ⟨ge, 0, none⟩ (.int .i64 (rd es x37)))) ?hg ?ho ?hn ?hr ?_; (case ho => rfl); (case hg => rfl); (case hn => rfl); (case hr => exact sqG); intro w11 hw; have hp_ := yP (v := .int .i64 (rd es x37)) HG4.out BKe.out HBe.out; rw [← hw] at hp_; have HS8 := Aside0.mk (HS.out.below hp_.2); have BK8 := Aside0.mk hp_.1; have BK7 := Aside0.mk (zd BKa.out hp_.2); have HC8 := Aside0.mk (Kd.zH HCE.out hp_.2); clear hp_ hw BKe HBe HG4 HS hce hfe BKa HCE; have HS := HS8; have BKe := BK8; have BKa := BK7; have HCE := HC8; clear HS8 BK8 BK7 HC8; have hca : w11.cell? ⟨ga, 0, none⟩ = some (.int .i64 (rd l0_1 x21)) := (za BKa.out 0).trans rfl)
                                  | ((with_reducible refine zg (f := 90) rfl ?_); refine zx (some 44) rfl rfl Try.func90 (by kernel_rfl) rfl #[.int .i64 (Go.bits .andNot .i64 (rd l0_1 x28) (rd l0_1 x21))] rfl (by (try simp only [List.map_toArray, List.map_cons, List.map_nil]); first | done | rfl) ?_; (with_reducible refine (zA.calls k3 _ fs _ HF.out).mono ?_); rintro e w12 ⟨vf, rfl, ho, hb⟩; refine ⟨_, rfl, ?_⟩; obtain ⟨Af, cf, ef⟩ := Kd.qc ho; subst ef; have HCF := Aside0.mk (Kd.zm ho).2.2; have HLF2 := Aside0.mk (Kd.zm ho).2.1; have HS8 := Aside0.mk (HS.out.below hb); have BK8 := Aside0.mk (zd BKe.out hb); have BK7 := Aside0.mk (zd BKa.out hb); have HC8 := Aside0.mk (Kd.zH HCE.out hb); clear ho hb BKe HS BKa HCE hca; have HS := HS8; have BKe := BK8; have BKa := BK7; have HCE := HC8; clear HS8 BK8 BK7 HC8))
                                refine (jn (zh.q k3 l0_1 (rd l0_1 x21) (rd es x37)) _ _ (enters_of Try.func91 (by kernel_rfl) rfl) _ _ fs false _ (zh.pred k3 l0_1 (rd l0_1 x21) (rd es x37) a0_0 _ c0_1 gm ga ge _ HS.out.m BKa.out BKe.out HS.out.C HC.out) HCF.out HLF2.out HLF.out HAny.out).mono ?_
                                rintro e w13 ⟨rfl, hb⟩
                                have HS8 := Aside0.mk (HS.out.below hb)
                                have BK8 := Aside0.mk (zd BKe.out hb)
                                have BK7 := Aside0.mk (zd BKa.out hb)
                                have HC8 := Aside0.mk (Kd.zH HCE.out hb)
                                clear hb BKe HS BKa HCE HCF
                                have HS := HS8
                                have BKe := BK8
                                have BKa := BK7
                                have HCE := HC8
                                clear HS8 BK8 BK7 HC8
                                have hca : w13.cell? ⟨ga, 0, none⟩ = some (.int .i64 (rd l0_1 x21)) := (za BKa.out 0).trans rfl
                                have hce : w13.cell? ⟨ge, 0, none⟩ = some (.int .i64 (rd es x37)) := (za BKe.out 0).trans rfl
                                have hcr0 : w13.cell? ⟨gr, 0, none⟩ = some (.int .i64 0) := (za HS.out.r 0).trans rfl
                                have hcr1 : w13.cell? ⟨gr, 1, none⟩ = some (.int .i64 0) := (za HS.out.r 1).trans rfl
                                have hcr2 : w13.cell? ⟨gr, 2, none⟩ = some (.int .i64 0) := (za HS.out.r 2).trans rfl
                                have hfr0 := zb HS.out.r 0
                                have hfr1 := zb HS.out.r 1
                                have hfr2 := zb HS.out.r 2
                                go_wp2
                                refine bodyPost_ret (qq rfl _ _ gr 53 #[.int .i64 (rd l0_1 x21), .int .i64 (rd l0_1 x28), .int .i64 (rd es x37)] (0, 0) _ rfl (by refine zM (cs := #[.int .i64 (rd l0_1 x21), .int .i64 (rd l0_1 x28), .int .i64 0]) ?_ 2 _ rfl; refine zM (cs := #[.int .i64 (rd l0_1 x21), .int .i64 0, .int .i64 0]) ?_ 1 _ rfl; refine zM (cs := #[.int .i64 0, .int .i64 0, .int .i64 0]) ?_ 0 _ rfl; exact HS.out.r) Try.underlying53 rfl (by kernel_rfl)) rfl ?_
                                exact ⟨rfl, by repeat (first | exact HS.out.B | refine qh ?_ HGr.out)⟩
                            · rw [if_neg c7] at H
                              exact absurd H (by simp)
                          · rw [if_neg c6] at H
                            exact absurd H (by simp)
                        · rw [if_neg c5] at H
                          have H1 := Aside0.mk H
                          clear H
                          have c5b0 : decide (x37 < (es.length : Int)) = false := decide_eq_false c5
                          clear c5
                          go_wp2
                          go_roundg k3
                          case measure => have := HK1.out; have := HK2.out; have := HK3.out; omega
                          case rel => exact ⟨wrap64 (x28 + 1), rfl, H1, ⟨by have := HK2.out; have := HK3.out; omega⟩, HS, BKa⟩
                  · rw [if_neg c4] at H
                    exact absurd H (by simp)
                · rw [if_neg c3] at H
                  have H1 := Aside0.mk H
                  clear H
                  have c3b0 : decide (x28 < (l0_1.length : Int)) = false := decide_eq_false c3
                  clear c3
                  go_wp2
                  go_roundg k2
                  case measure => have := HK1.out; have := HK2.out; omega
                  case rel => exact ⟨wrap64 (x21 + 1), rfl, H1, ⟨by have := HK1.out; have := HK2.out; omega⟩, HS⟩
          · rw [if_neg c2] at H
            exact absurd H (by simp)
        · rw [if_neg c1] at H
          simp only [Option.some.injEq, Prod.mk.injEq] at H
          obtain ⟨rfl, rfl, rfl, rfl⟩ := H
          have c1b0 : decide (x21 < (l0_1.length : Int)) = false := decide_eq_false c1
          clear c1
          have hne := HNE.out
          have hne2 := HNE.out.symm
          have hcr0 : wr.cell? ⟨gr, 0, none⟩ = some (.int .i64 0) := (za HS.out.r 0).trans rfl
          have hcr1 : wr.cell? ⟨gr, 1, none⟩ = some (.int .i64 0) := (za HS.out.r 1).trans rfl
          have hcr2 : wr.cell? ⟨gr, 2, none⟩ = some (.int .i64 0) := (za HS.out.r 2).trans rfl
          have hfr0 := zb HS.out.r 0
          have hfr1 := zb HS.out.r 1
          have hfr2 := zb HS.out.r 2
          go_wp2
          refine bodyPost_ret (qq rfl _ _ gr 53 #[.int .i64 0, .int .i64 0, .int .i64 0] (0, 0) _ rfl (by refine zM (cs := #[.int .i64 0, .int .i64 0, .int .i64 0]) ?_ 2 _ rfl; refine zM (cs := #[.int .i64 0, .int .i64 0, .int .i64 0]) ?_ 1 _ rfl; refine zM (cs := #[.int .i64 0, .int .i64 0, .int .i64 0]) ?_ 0 _ rfl; exact HS.out.r) Try.underlying53 rfl (by kernel_rfl)) rfl ?_
          exact ⟨rfl, by repeat (first | exact HS.out.B | refine qh ?_ HGr.out)⟩
end Go.Proofs.Ytmeopnlkddflaaa.F
end
section
namespace Go.Proofs.Ytmeopnlkddflaaa.F
open Go.RowKit Go.Proofs.YtmeopnlkddflaaaW.PrintWords Go.Proofs.YtmeopnlkddflaaaW.PrintLast Go.Proofs.YtmeopnlkddflaaaW.PrintMore
attribute [local go_sem] q4 q6 jz jx qW qT qZ q3   -- for this text's walks alone
set_option linter.unusedVariables false
set_option linter.unusedSimpArgs false

def zZ.f (k : Nat) (a0_0 : Int) (l0_1 : List Int) : Option (Bool) := (zh.f k a0_0 l0_1).bind fun bt193 => ((zB.f k a0_0 l0_1).bind fun t198 => (if t198 = true then (if (l0_1.length : Int) > 0 then (some (!bt193.2.2.2)) else (some false)) else (some false)))
theorem zZ.calls (k : Nat) (a0_0 : Int) (A0_1 : Option Addr) (c0_1 : Nat) (l0_1 : List Int) (r : Bool) (w : World) (hr0_1 : Kd.C (Kd.int .i64) w A0_1 l0_1.length l0_1) (hc0_1 : l0_1.length ≤ c0_1) (h : zZ.f k a0_0 l0_1 = some r) :
  Calls Try.prog 50 #[.agg #[.int .i64 a0_0, .slice A0_1 l0_1.length c0_1]] w fun e w' => e = .returned (.bool r) ∧ Below w.heap.size w w' := by
 have hu27 := Try.underlying27
 have hu53 := Try.underlying53
 have HR0_1 := Aside0.mk hr0_1
 have HC0_1 := Aside0.mk hc0_1
 clear hr0_1 hc0_1
 have HB := Aside0.mk (Below.refl w.heap.size w)
 have H : ((zh.f k a0_0 l0_1).bind fun bt193 => ((zB.f k a0_0 l0_1).bind fun t198 => (if t198 = true then (if (l0_1.length : Int) > 0 then (some (!bt193.2.2.2)) else (some false)) else (some false)))) = some r := h
 clear h
 replace H := Option.bind_eq_some_iff.mp H
 obtain ⟨⟨t193, t194, t195, t196⟩, A20, H⟩ := H
 replace H : ((zB.f k a0_0 l0_1).bind fun t198 => (if t198 = true then (if (l0_1.length : Int) > 0 then (some (!t196)) else (some false)) else (some false))) = some r := H
 have A2 := Aside0.mk A20
 clear A20
 replace H := Option.bind_eq_some_iff.mp H
 obtain ⟨t198, A30, H⟩ := H
 replace H : (if t198 = true then (if (l0_1.length : Int) > 0 then (some (!t196)) else (some false)) else (some false)) = some r := H
 have A3 := Aside0.mk A30
 clear A30
 by_cases c4 : t198 = true
 ·subst c4
  have H1 : (if (l0_1.length : Int) > 0 then (some (!t196)) else (some false)) = some r := by rw [if_pos rfl] at H; exact H
  clear H
  have H := H1
  clear H1
  by_cases c5 : (l0_1.length : Int) > 0
  ·rw [if_pos c5] at H
   have c5b0 : decide (0 < (l0_1.length : Int)) = true := decide_eq_true c5
   have c5b1 : decide (0 < l0_1.length) = true := decide_eq_true (by omega)
   clear c5
   obtain rfl := Option.some.inj H
   go_enter Try.func50, Try.ntmps50
   go_wp2_with (first | ((with_reducible refine zr (N := 1) rfl ?_); (try (refine zP (by rfl) ?_; dsimp only)); refine zq ?hg (N := 1) ?hd (cs := #[.int .i64 a0_0, .slice A0_1 l0_1.length c0_1]) (t := 27) ?hr ?_; (case hd => rfl); (case hg => rfl); (case hr => exact sqG); intro gb192 hg w6 hbox hb; have n0_ := Aside0.mk (ze sqB hb); have n1_ := Aside0.mk (hbox); have n2_ := Aside0.mk ((sqS hg : w.heap.size ≤ gb192)); have n3_ := Aside0.mk ((sqS hg : w.heap.size ≤ gb192)); clear HB; have HB := n0_; have BK192 := n1_; have GW192 := n2_; have GE192 := n3_; clear n0_ n1_ n2_ n3_; clear hb hbox hg; have hcz7_0 : w6.cell? ⟨gb192, 0, none⟩ = some (.int .i64 a0_0) := (za BK192.out 0).trans rfl; have hcz7_1 : w6.cell? ⟨gb192, 1, none⟩ = some (.slice A0_1 l0_1.length c0_1) := (za BK192.out 1).trans rfl; have hfz7_0 := zb BK192.out 0; have hfz7_1 := zb BK192.out 1) | ((with_reducible refine zg (f := 73) rfl ?_); refine zx (some 7) rfl rfl Try.func73 (by kernel_rfl) rfl #[.agg #[.int .i64 a0_0, .slice A0_1 l0_1.length c0_1]] rfl sqM ?_; (with_reducible refine (zh.calls k a0_0 _ _ l0_1 t193 t194 t195 t196 _ ?side1 ?side2 A2.out).mono ?_); (case side1 => exact sqC (Kd.zH HR0_1.out HB.out)); (case side2 => exact HC0_1.out); rintro e w8 ⟨rfl, hb⟩; refine ⟨_, rfl, ?_⟩; have n0_ := Aside0.mk (zd (g := gb192) (o := .cells #[.int .i64 a0_0, .slice A0_1 l0_1.length c0_1] 27 (0, 0)) (sqK BK192.out) hb); have n1_ := Aside0.mk (ze sqB hb); clear BK192; clear HB; have BK192 := n0_; have HB := n1_; clear n0_ n1_; (try clear hb); (try clear hb2); (try clear hk); (try clear hi)) | ((with_reducible refine zr (N := 3) rfl ?_); (try (refine zP (by rfl) ?_; dsimp only)); refine zq ?hg (N := 3) ?hd (cs := #[.int .i64 0, .int .i64 0, .int .i64 0]) (t := 53) ?hr ?_; (case hd => rfl); (case hg => rfl); (case hr => exact sqG); intro gb197 hg w9 hbox hb; have n0_ := Aside0.mk (zd (g := gb192) (o := .cells #[.int .i64 a0_0, .slice A0_1 l0_1.length c0_1] 27 (0, 0)) (sqK BK192.out) hb); have n1_ := Aside0.mk (ze sqB hb); have n2_ := Aside0.mk (hbox); have n3_ := Aside0.mk ((sqS hg : w.heap.size ≤ gb197)); have n4_ := Aside0.mk ((sqS hg : w.heap.size ≤ gb197)); have n5_ := Aside0.mk ((by rw [hg]; exact Nat.ne_of_lt (zR (g := gb192) (o := .cells #[.int .i64 a0_0, .slice A0_1 l0_1.length c0_1] 27 (0, 0)) (sqK BK192.out)) : gb192 ≠ gb197)); have n6_ := Aside0.mk ((by rw [hg]; exact Nat.ne_of_gt (zR (g := gb192) (o := .cells #[.int .i64 a0_0, .slice A0_1 l0_1.length c0_1] 27 (0, 0)) (sqK BK192.out)) : gb197 ≠ gb192)); clear BK192; clear HB; have BK192 := n0_; have HB := n1_; have BK197 := n2_; have GW197 := n3_; have GE197 := n4_; have NB192_197 := n5_; have NB197_192 := n6_; clear n0_ n1_ n2_ n3_ n4_ n5_ n6_; clear hb hbox hg; have hnb10 := NB197_192.out; have hnc10 := NB192_197.out; have hcz11_0 : w9.cell? ⟨gb197, 0, none⟩ = some (.int .i64 0) := (za BK197.out 0).trans rfl; have hcz11_1 : w9.cell? ⟨gb197, 1, none⟩ = some (.int .i64 0) := (za BK197.out 1).trans rfl; have hcz11_2 : w9.cell? ⟨gb197, 2, none⟩ = some (.int .i64 0) := (za BK197.out 2).trans rfl; have hfz11_0 := zb BK197.out 0; have hfz11_1 := zb BK197.out 1; have hfz11_2 := zb BK197.out 2; have hcz12_0 : w9.cell? ⟨gb192, 0, none⟩ = some (.int .i64 a0_0) := (za BK192.out 0).trans rfl; have hcz12_1 : w9.cell? ⟨gb192, 1, none⟩ = some (.slice A0_1 l0_1.length c0_1) := (za BK192.out 1).trans rfl; have hfz12_0 := zb BK192.out 0; have hfz12_1 := zb BK192.out 1) | ((with_reducible refine zg (f := 74) rfl ?_); refine zx (some 14) rfl rfl Try.func74 (by kernel_rfl) rfl #[.int .i64 a0_0, .slice A0_1 l0_1.length c0_1] rfl sqM ?_; (with_reducible refine (zB.calls k a0_0 _ _ l0_1 true _ ?side1 ?side2 A3.out).mono ?_); (case side1 => exact Kd.zH HR0_1.out sqB); (case side2 => exact HC0_1.out); rintro e w' ⟨rfl, ⟨nd, rfl⟩⟩; refine ⟨_, rfl, ?_⟩))
   go_ret
   exact ⟨sqE, sqB⟩
  ·rw [if_neg c5] at H
   have c5b0 : decide (0 < (l0_1.length : Int)) = false := decide_eq_false c5
   have c5b1 : decide (0 < l0_1.length) = false := decide_eq_false (by omega)
   clear c5
   obtain rfl := Option.some.inj H
   go_enter Try.func50, Try.ntmps50
   go_wp2_with (first | ((with_reducible refine zr (N := 1) rfl ?_); (try (refine zP (by rfl) ?_; dsimp only)); refine zq ?hg (N := 1) ?hd (cs := #[.int .i64 a0_0, .slice A0_1 l0_1.length c0_1]) (t := 27) ?hr ?_; (case hd => rfl); (case hg => rfl); (case hr => exact sqG); intro gb192 hg w13 hbox hb; have n0_ := Aside0.mk (ze sqB hb); have n1_ := Aside0.mk (hbox); have n2_ := Aside0.mk ((sqS hg : w.heap.size ≤ gb192)); have n3_ := Aside0.mk ((sqS hg : w.heap.size ≤ gb192)); clear HB; have HB := n0_; have BK192 := n1_; have GW192 := n2_; have GE192 := n3_; clear n0_ n1_ n2_ n3_; clear hb hbox hg; have hcz14_0 : w13.cell? ⟨gb192, 0, none⟩ = some (.int .i64 a0_0) := (za BK192.out 0).trans rfl; have hcz14_1 : w13.cell? ⟨gb192, 1, none⟩ = some (.slice A0_1 l0_1.length c0_1) := (za BK192.out 1).trans rfl; have hfz14_0 := zb BK192.out 0; have hfz14_1 := zb BK192.out 1) | ((with_reducible refine zg (f := 73) rfl ?_); refine zx (some 7) rfl rfl Try.func73 (by kernel_rfl) rfl #[.agg #[.int .i64 a0_0, .slice A0_1 l0_1.length c0_1]] rfl sqM ?_; (with_reducible refine (zh.calls k a0_0 _ _ l0_1 t193 t194 t195 t196 _ ?side1 ?side2 A2.out).mono ?_); (case side1 => exact sqC (Kd.zH HR0_1.out HB.out)); (case side2 => exact HC0_1.out); rintro e w15 ⟨rfl, hb⟩; refine ⟨_, rfl, ?_⟩; have n0_ := Aside0.mk (zd (g := gb192) (o := .cells #[.int .i64 a0_0, .slice A0_1 l0_1.length c0_1] 27 (0, 0)) (sqK BK192.out) hb); have n1_ := Aside0.mk (ze sqB hb); clear BK192; clear HB; have BK192 := n0_; have HB := n1_; clear n0_ n1_; (try clear hb); (try clear hb2); (try clear hk); (try clear hi)) | ((with_reducible refine zr (N := 3) rfl ?_); (try (refine zP (by rfl) ?_; dsimp only)); refine zq ?hg (N := 3) ?hd (cs := #[.int .i64 0, .int .i64 0, .int .i64 0]) (t := 53) ?hr ?_; (case hd => rfl); (case hg => rfl); (case hr => exact sqG); intro gb197 hg w16 hbox hb; have n0_ := Aside0.mk (zd (g := gb192) (o := .cells #[.int .i64 a0_0, .slice A0_1 l0_1.length c0_1] 27 (0, 0)) (sqK BK192.out) hb); have n1_ := Aside0.mk (ze sqB hb); have n2_ := Aside0.mk (hbox); have n3_ := Aside0.mk ((sqS hg : w.heap.size ≤ gb197)); have n4_ := Aside0.mk ((sqS hg : w.heap.size ≤ gb197)); have n5_ := Aside0.mk ((by rw [hg]; exact Nat.ne_of_lt (zR (g := gb192) (o := .cells #[.int .i64 a0_0, .slice A0_1 l0_1.length c0_1] 27 (0, 0)) (sqK BK192.out)) : gb192 ≠ gb197)); have n6_ := Aside0.mk ((by rw [hg]; exact Nat.ne_of_gt (zR (g := gb192) (o := .cells #[.int .i64 a0_0, .slice A0_1 l0_1.length c0_1] 27 (0, 0)) (sqK BK192.out)) : gb197 ≠ gb192)); clear BK192; clear HB; have BK192 := n0_; have HB := n1_; have BK197 := n2_; have GW197 := n3_; have GE197 := n4_; have NB192_197 := n5_; have NB197_192 := n6_; clear n0_ n1_ n2_ n3_ n4_ n5_ n6_; clear hb hbox hg; have hnb17 := NB197_192.out; have hnc17 := NB192_197.out; have hcz18_0 : w16.cell? ⟨gb197, 0, none⟩ = some (.int .i64 0) := (za BK197.out 0).trans rfl; have hcz18_1 : w16.cell? ⟨gb197, 1, none⟩ = some (.int .i64 0) := (za BK197.out 1).trans rfl; have hcz18_2 : w16.cell? ⟨gb197, 2, none⟩ = some (.int .i64 0) := (za BK197.out 2).trans rfl; have hfz18_0 := zb BK197.out 0; have hfz18_1 := zb BK197.out 1; have hfz18_2 := zb BK197.out 2; have hcz19_0 : w16.cell? ⟨gb192, 0, none⟩ = some (.int .i64 a0_0) := (za BK192.out 0).trans rfl; have hcz19_1 : w16.cell? ⟨gb192, 1, none⟩ = some (.slice A0_1 l0_1.length c0_1) := (za BK192.out 1).trans rfl; have hfz19_0 := zb BK192.out 0; have hfz19_1 := zb BK192.out 1) | ((with_reducible refine zg (f := 74) rfl ?_); refine zx (some 14) rfl rfl Try.func74 (by kernel_rfl) rfl #[.int .i64 a0_0, .slice A0_1 l0_1.length c0_1] rfl sqM ?_; (with_reducible refine (zB.calls k a0_0 _ _ l0_1 true _ ?side1 ?side2 A3.out).mono ?_); (case side1 => exact Kd.zH HR0_1.out sqB); (case side2 => exact HC0_1.out); rintro e w' ⟨rfl, ⟨nd, rfl⟩⟩; refine ⟨_, rfl, ?_⟩))
   go_ret
   exact ⟨sqE, sqB⟩
 ·replace c4 := Bool.eq_false_iff.mpr c4
  subst c4
  have H1 : (some false) = some r := by rw [if_neg (show ¬ (false = true) by decide)] at H; exact H
  clear H
  have H := H1
  clear H1
  obtain rfl := Option.some.inj H
  go_enter Try.func50, Try.ntmps50
  go_wp2_with (first | ((with_reducible refine zr (N := 1) rfl ?_); (try (refine zP (by rfl) ?_; dsimp only)); refine zq ?hg (N := 1) ?hd (cs := #[.int .i64 a0_0, .slice A0_1 l0_1.length c0_1]) (t := 27) ?hr ?_; (case hd => rfl); (case hg => rfl); (case hr => exact sqG); intro gb192 hg w20 hbox hb; have n0_ := Aside0.mk (ze sqB hb); have n1_ := Aside0.mk (hbox); have n2_ := Aside0.mk ((sqS hg : w.heap.size ≤ gb192)); have n3_ := Aside0.mk ((sqS hg : w.heap.size ≤ gb192)); clear HB; have HB := n0_; have BK192 := n1_; have GW192 := n2_; have GE192 := n3_; clear n0_ n1_ n2_ n3_; clear hb hbox hg; have hcz21_0 : w20.cell? ⟨gb192, 0, none⟩ = some (.int .i64 a0_0) := (za BK192.out 0).trans rfl; have hcz21_1 : w20.cell? ⟨gb192, 1, none⟩ = some (.slice A0_1 l0_1.length c0_1) := (za BK192.out 1).trans rfl; have hfz21_0 := zb BK192.out 0; have hfz21_1 := zb BK192.out 1) | ((with_reducible refine zg (f := 73) rfl ?_); refine zx (some 7) rfl rfl Try.func73 (by kernel_rfl) rfl #[.agg #[.int .i64 a0_0, .slice A0_1 l0_1.length c0_1]] rfl sqM ?_; (with_reducible refine (zh.calls k a0_0 _ _ l0_1 t193 t194 t195 t196 _ ?side1 ?side2 A2.out).mono ?_); (case side1 => exact sqC (Kd.zH HR0_1.out HB.out)); (case side2 => exact HC0_1.out); rintro e w22 ⟨rfl, hb⟩; refine ⟨_, rfl, ?_⟩; have n0_ := Aside0.mk (zd (g := gb192) (o := .cells #[.int .i64 a0_0, .slice A0_1 l0_1.length c0_1] 27 (0, 0)) (sqK BK192.out) hb); have n1_ := Aside0.mk (ze sqB hb); clear BK192; clear HB; have BK192 := n0_; have HB := n1_; clear n0_ n1_; (try clear hb); (try clear hb2); (try clear hk); (try clear hi)) | ((with_reducible refine zr (N := 3) rfl ?_); (try (refine zP (by rfl) ?_; dsimp only)); refine zq ?hg (N := 3) ?hd (cs := #[.int .i64 0, .int .i64 0, .int .i64 0]) (t := 53) ?hr ?_; (case hd => rfl); (case hg => rfl); (case hr => exact sqG); intro gb197 hg w23 hbox hb; have n0_ := Aside0.mk (zd (g := gb192) (o := .cells #[.int .i64 a0_0, .slice A0_1 l0_1.length c0_1] 27 (0, 0)) (sqK BK192.out) hb); have n1_ := Aside0.mk (ze sqB hb); have n2_ := Aside0.mk (hbox); have n3_ := Aside0.mk ((sqS hg : w.heap.size ≤ gb197)); have n4_ := Aside0.mk ((sqS hg : w.heap.size ≤ gb197)); have n5_ := Aside0.mk ((by rw [hg]; exact Nat.ne_of_lt (zR (g := gb192) (o := .cells #[.int .i64 a0_0, .slice A0_1 l0_1.length c0_1] 27 (0, 0)) (sqK BK192.out)) : gb192 ≠ gb197)); have n6_ := Aside0.mk ((by rw [hg]; exact Nat.ne_of_gt (zR (g := gb192) (o := .cells #[.int .i64 a0_0, .slice A0_1 l0_1.length c0_1] 27 (0, 0)) (sqK BK192.out)) : gb197 ≠ gb192)); clear BK192; clear HB; have BK192 := n0_; have HB := n1_; have BK197 := n2_; have GW197 := n3_; have GE197 := n4_; have NB192_197 := n5_; have NB197_192 := n6_; clear n0_ n1_ n2_ n3_ n4_ n5_ n6_; clear hb hbox hg; have hnb24 := NB197_192.out; have hnc24 := NB192_197.out; have hcz25_0 : w23.cell? ⟨gb197, 0, none⟩ = some (.int .i64 0) := (za BK197.out 0).trans rfl; have hcz25_1 : w23.cell? ⟨gb197, 1, none⟩ = some (.int .i64 0) := (za BK197.out 1).trans rfl; have hcz25_2 : w23.cell? ⟨gb197, 2, none⟩ = some (.int .i64 0) := (za BK197.out 2).trans rfl; have hfz25_0 := zb BK197.out 0; have hfz25_1 := zb BK197.out 1; have hfz25_2 := zb BK197.out 2; have hcz26_0 : w23.cell? ⟨gb192, 0, none⟩ = some (.int .i64 a0_0) := (za BK192.out 0).trans rfl; have hcz26_1 : w23.cell? ⟨gb192, 1, none⟩ = some (.slice A0_1 l0_1.length c0_1) := (za BK192.out 1).trans rfl; have hfz26_0 := zb BK192.out 0; have hfz26_1 := zb BK192.out 1) | ((with_reducible refine zg (f := 74) rfl ?_); refine zx (some 14) rfl rfl Try.func74 (by kernel_rfl) rfl #[.int .i64 a0_0, .slice A0_1 l0_1.length c0_1] rfl sqM ?_; (with_reducible refine (zB.calls k a0_0 _ _ l0_1 false _ ?side1 ?side2 A3.out).mono ?_); (case side1 => exact Kd.zH HR0_1.out sqB); (case side2 => exact HC0_1.out); rintro e w' ⟨rfl, ⟨nd, rfl⟩⟩; refine ⟨_, rfl, ?_⟩))
  go_ret
  exact ⟨sqE, sqB⟩

end Go.Proofs.Ytmeopnlkddflaaa.F
end
section
namespace Go.Proofs.Ytmeopnlkddflaaa.F
open Go.RowKit Go.Proofs.YtmeopnlkddflaaaW.PrintWords Go.Proofs.YtmeopnlkddflaaaW.PrintLast Go.Proofs.YtmeopnlkddflaaaW.PrintMore
attribute [local go_sem] q4 q6 jz jx qW qT qZ q3   -- for this text's walks alone
set_option linter.unusedVariables false
set_option linter.unusedSimpArgs false

def qt.f (a0 : Int) : Option (Int) := (qy.f a0).bind fun t169 => (some t169)
theorem qt.calls (a0 : Int) (r : Int) (w : World) (h : qt.f a0 = some r) :
  Calls Try.prog 70 #[.int .u64 a0] w fun e w' => e = .returned (.int .i64 r) ∧ zi w w' := by
 have H : ((qy.f a0).bind fun t169 => (some t169)) = some r := h
 clear h
 replace H := Option.bind_eq_some_iff.mp H
 obtain ⟨t169, A20, H⟩ := H
 replace H : (some t169) = some r := H
 have A2 := Aside0.mk A20
 clear A20
 obtain rfl := Option.some.inj H
 go_enter Try.func70, Try.ntmps70
 go_wp2_with (first | ((with_reducible refine zg (f := 87) rfl ?_); refine zx (some 7) rfl rfl Try.func87 (by kernel_rfl) rfl #[.int .u64 a0] rfl sqM ?_; (with_reducible refine (qy.calls a0 t169 _ A2.out).mono ?_); rintro e w' ⟨rfl, ⟨nd, rfl⟩⟩; refine ⟨_, rfl, ?_⟩))
 go_ret
 exact ⟨sqD, by repeat (first | exact zi.refl _ | apply zi.step)⟩

def qE.f (a0 : Int) : Option (Int) := (qp.f a0).bind fun t170 => (if t170 = true then ((qt.f (IntKind.u64.wrap (a0))).bind fun t171 => (some t171)) else (some 0))
theorem qE.calls (a0 : Int) (r : Int) (w : World) (h : qE.f a0 = some r) :
  Calls Try.prog 45 #[.int .i64 a0] w fun e w' => e = .returned (.int .i64 r) ∧ zi w w' := by
 have H : ((qp.f a0).bind fun t170 => (if t170 = true then ((qt.f (IntKind.u64.wrap (a0))).bind fun t171 => (some t171)) else (some 0))) = some r := h
 clear h
 replace H := Option.bind_eq_some_iff.mp H
 obtain ⟨t170, A20, H⟩ := H
 replace H : (if t170 = true then ((qt.f (IntKind.u64.wrap (a0))).bind fun t171 => (some t171)) else (some 0)) = some r := H
 have A2 := Aside0.mk A20
 clear A20
 by_cases c3 : t170 = true
 ·subst c3
  have H1 : ((qt.f (IntKind.u64.wrap (a0))).bind fun t171 => (some t171)) = some r := by rw [if_pos rfl] at H; exact H
  clear H
  have H := H1
  clear H1
  replace H := Option.bind_eq_some_iff.mp H
  obtain ⟨t171, A40, H⟩ := H
  replace H : (some t171) = some r := H
  have A4 := Aside0.mk A40
  clear A40
  obtain rfl := Option.some.inj H
  go_enter Try.func45, Try.ntmps45
  go_wp2_with (first | ((with_reducible refine zg (f := 69) rfl ?_); refine zx (some 4) rfl rfl Try.func69 (by kernel_rfl) rfl #[.int .i64 a0] rfl sqM ?_; (with_reducible refine (qp.calls a0 true _ A2.out).mono ?_); rintro e w' ⟨rfl, ⟨nd, rfl⟩⟩; refine ⟨_, rfl, ?_⟩) | ((with_reducible refine zg (f := 70) rfl ?_); refine zx (some 8) rfl rfl Try.func70 (by kernel_rfl) rfl #[.int .u64 (IntKind.u64.wrap (a0))] rfl sqM ?_; (with_reducible refine (qt.calls (IntKind.u64.wrap (a0)) t171 _ A4.out).mono ?_); rintro e w' ⟨rfl, ⟨nd, rfl⟩⟩; refine ⟨_, rfl, ?_⟩))
  go_ret
  exact ⟨sqD, by repeat (first | exact zi.refl _ | apply zi.step)⟩
 ·replace c3 := Bool.eq_false_iff.mpr c3
  subst c3
  have H1 : (some 0) = some r := by rw [if_neg (show ¬ (false = true) by decide)] at H; exact H
  clear H
  have H := H1
  clear H1
  obtain rfl := Option.some.inj H
  go_enter Try.func45, Try.ntmps45
  go_wp2_with (first | ((with_reducible refine zg (f := 69) rfl ?_); refine zx (some 4) rfl rfl Try.func69 (by kernel_rfl) rfl #[.int .i64 a0] rfl sqM ?_; (with_reducible refine (qp.calls a0 false _ A2.out).mono ?_); rintro e w' ⟨rfl, ⟨nd, rfl⟩⟩; refine ⟨_, rfl, ?_⟩))
  go_ret
  exact ⟨sqD, by repeat (first | exact zi.refl _ | apply zi.step)⟩

def z1.l0 : Nat → Int → Int → List Int → Int → Int → Option (Int)
 | 0, _, _, _, _, _ => none
 | k + 1, x1, x5, x9, x10, x11 => if x11 < x10 then (if 0 ≤ x11 then (if x11 < (x9.length : Int) then ((qE.f (Go.bits .and .i64 x1 (rd x9 x11))).bind fun t174 => (z1.l0 k x1 (mx x5 t174) x9 x10 (wrap64 (x11 + 1)))) else (none)) else (none)) else (some x5)
def z1.f (k : Nat) (a0_0 : Int) (l0_1 : List Int) (a1 : Int) : Option (Int) := z1.l0 k a1 0 l0_1 (l0_1.length : Int) 0
theorem z1.calls (k : Nat) (a0_0 : Int) (A0_1 : Option Addr) (c0_1 : Nat) (l0_1 : List Int) (a1 : Int) (r : Int) (w : World) (hr0_1 : Kd.C (Kd.int .i64) w A0_1 l0_1.length l0_1) (hc0_1 : l0_1.length ≤ c0_1) (h : z1.f k a0_0 l0_1 a1 = some r) :
  Calls Try.prog 46 #[.agg #[.int .i64 a0_0, .slice A0_1 l0_1.length c0_1], .int .i64 a1] w fun e w' => e = .returned (.int .i64 r) ∧ Below w.heap.size w w' := by
 have hu27 := Try.underlying27
 have HR0_1 := Aside0.mk hr0_1
 have HC0_1 := Aside0.mk hc0_1
 clear hr0_1 hc0_1
 have HB := Aside0.mk (Below.refl w.heap.size w)
 have H : (z1.l0 k a1 0 l0_1 (l0_1.length : Int) 0) = some r := h
 clear h
 have H' := Aside0.mk H
 clear H
 go_enter Try.func46, Try.ntmps46
 go_wp2_with (first | ((with_reducible refine zr (N := 2) rfl ?_); refine zq ?hg (N := 2) ?hd (cs := #[.int .i64 a0_0, .slice A0_1 l0_1.length c0_1]) (t := 27) ?hr ?_; (case hd => rfl); (case hg => rfl); (case hr => exact sqG); intro gb172 hg w3 hbox hb; have n0_ := Aside0.mk (ze sqB hb); have n1_ := Aside0.mk (hbox); have n2_ := Aside0.mk ((sqS hg : w.heap.size ≤ gb172)); have n3_ := Aside0.mk ((sqS hg : w.heap.size ≤ gb172)); clear HB; have HB := n0_; have BK172 := n1_; have GW172 := n2_; have GE172 := n3_; clear n0_ n1_ n2_ n3_; clear hb hbox hg; have hcz4_0 : w3.cell? ⟨gb172, 0, none⟩ = some (.int .i64 a0_0) := (za BK172.out 0).trans rfl; have hcz4_1 : w3.cell? ⟨gb172, 1, none⟩ = some (.slice A0_1 l0_1.length c0_1) := (za BK172.out 1).trans rfl; have hfz4_0 := zb BK172.out 0; have hfz4_1 := zb BK172.out 1))
 go_loopg [5, 11] k (fun kq v5 v11 w' => ∃ (x5_1 : Int) (x11_1 : Int), v5 = .int .i64 x5_1 ∧ v11 = .int .i64 x11_1 ∧ Aside0 (z1.l0 kq a1 x5_1 l0_1 (l0_1.length : Int) x11_1 = some r) ∧ Aside0 (kq ≤ k) ∧ Aside0 (w'.heap[gb172]? = some (.cells #[.int .i64 a0_0, (.slice A0_1 l0_1.length c0_1)] 27 (0, 0))) ∧ Aside0 (Below w.heap.size w w'))
 case atStart => exact ⟨(0), (0), (sqD), (sqD), H', ⟨Nat.le_refl _⟩, ⟨sqK BK172.out⟩, ⟨sqB⟩⟩
 case round =>
  clear H'
  try clear p2
  try clear c4
  try clear hcz4_0
  try clear hcz4_1
  try clear hfz4_0
  try clear hfz4_1
  obtain ⟨x5_1, x11_1, rfl, rfl, HA, HK1, BK172, HB⟩ := hrel
  cases gk with
  | zero => exact absurd HA.out (by simp [z1.l0])
  | succ k1 =>
   have H := HA.out
   clear HA
   simp only [z1.l0] at H
   by_cases c5 : x11_1 < (l0_1.length : Int)
   ·rw [if_pos c5] at H
    have c5b0 : decide (x11_1 < (l0_1.length : Int)) = true := decide_eq_true c5
    clear c5
    by_cases c6 : 0 ≤ x11_1
    ·rw [if_pos c6] at H
     have c6b0 : decide (0 ≤ x11_1) = true := decide_eq_true c6
     clear c6
     by_cases c7 : x11_1 < (l0_1.length : Int)
     ·rw [if_pos c7] at H
      have c7b0 : decide (x11_1 < (l0_1.length : Int)) = true := decide_eq_true c7
      clear c7
      replace H := Option.bind_eq_some_iff.mp H
      obtain ⟨t174, A80, H⟩ := H
      replace H : (z1.l0 k1 a1 (mx x5_1 t174) l0_1 (l0_1.length : Int) (wrap64 (x11_1 + 1))) = some r := H
      have A8 := Aside0.mk A80
      clear A80
      obtain ⟨ji9, hji9⟩ : ∃ j_ : Int, (mx x5_1 t174) = j_ := ⟨_, rfl⟩
      replace H : (z1.l0 k1 a1 ji9 l0_1 (l0_1.length : Int) (wrap64 (x11_1 + 1))) = some r := by first | (rw [hji9] at H; exact H) | (simp only [hji9] at H ⊢; exact H)
      (try rw [hji9] at A8)
      have hji9_ : (if x5_1 < t174 then t174 else x5_1) = ji9 := hji9
      have H' := Aside0.mk H
      clear H
      have p173 : 0 ≤ (x11_1 : Int) := of_decide_eq_true sqA
      have q173 : x11_1 < (l0_1.length : Int) := of_decide_eq_true sqA
      obtain ⟨ad173, e173, hx173_0⟩ := Kd.zG HR0_1.out x11_1 p173 q173
      cases e173
      replace hx173_0 := (HB.out.cell (World.block_lt_of_cell? w _ hx173_0)).trans hx173_0
      replace p173 := eq_true p173
      replace q173 := eq_true q173
      go_wp2_with (first | ((with_reducible refine zg (f := 45) rfl ?_); refine zx (some 19) rfl rfl Try.func45 (by kernel_rfl) rfl #[.int .i64 (Go.bits .and .i64 a1 (rd l0_1 x11_1))] rfl sqM ?_; (with_reducible refine (qE.calls (Go.bits .and .i64 a1 (rd l0_1 x11_1)) t174 _ A8.out).mono ?_); rintro e w' ⟨rfl, ⟨nd, rfl⟩⟩; refine ⟨_, rfl, ?_⟩))
      go_roundg k1
      case measure => have := HK1.out; omega
      case rel => exact ⟨(ji9), (wrap64 (x11_1 + 1)), (by first | rfl | (simp; done) | (simp only [← hji9] <;> (first | rfl | simp)) | (simp [*]; done)), (sqD), H', ⟨by have := HK1.out; omega⟩, ⟨sqK BK172.out⟩, ⟨sqB⟩⟩
     ·rw [if_neg c7] at H
      exact absurd H (by simp)
    ·rw [if_neg c6] at H
     exact absurd H (by simp)
   ·rw [if_neg c5] at H
    have c5b0 : decide (x11_1 < (l0_1.length : Int)) = false := decide_eq_false c5
    clear c5
    obtain rfl := Option.some.inj H
    go_wp2
    go_ret
    exact ⟨sqE, sqB⟩

end Go.Proofs.Ytmeopnlkddflaaa.F
end
section
namespace Go.Proofs.Ytmeopnlkddflaaa.F
open Go.RowKit Go.Proofs.YtmeopnlkddflaaaW.PrintWords Go.Proofs.YtmeopnlkddflaaaW.PrintLast Go.Proofs.YtmeopnlkddflaaaW.PrintMore
attribute [local go_sem] q4 q6 jz jx qW qT qZ q3   -- for this text's walks alone
set_option linter.unusedVariables false
set_option linter.unusedSimpArgs false

def zu.l0 : Nat → List Int → Int → Int → List Int → Option (List Int)
 | 0, _, _, _, _ => none
 | k + 1, x3, x4, x200000, x200001 => (zX.f x200000).bind fun t204 => (if x4 ≤ t204 then ((z1.f k x200000 x200001 x4).bind fun t205 => (if x3.length < 17592186044416 then (zu.l0 k (x3 ++ [t205]) (wrap64 (x4 + 1)) x200000 x200001) else (none))) else (some x3))
def zu.f (k : Nat) (a0_0 : Int) (l0_1 : List Int) : Option (List Int) := (zZ.f k a0_0 l0_1).bind fun t200 => (if t200 = true then (zu.l0 k (([] : List Int)) 0 a0_0 l0_1) else (some ([] : List Int)))
theorem zu.calls (k : Nat) (a0_0 : Int) (A0_1 : Option Addr) (c0_1 : Nat) (l0_1 : List Int) (r : List Int) (w : World) (hr0_1 : Kd.C (Kd.int .i64) w A0_1 l0_1.length l0_1) (hc0_1 : l0_1.length ≤ c0_1) (h : zu.f k a0_0 l0_1 = some r) :
  Calls Try.prog 20 #[.agg #[.int .i64 a0_0, .slice A0_1 l0_1.length c0_1]] w fun e w' => ∃ v0_ : Value, e = .returned (v0_) ∧ Kd.R (Kd.int .i64) 3 w' w.heap.size (fun _ => True) v0_ r ∧ Below w.heap.size w w' := by
 have hu27 := Try.underlying27
 have HR0_1 := Aside0.mk hr0_1
 have HC0_1 := Aside0.mk hc0_1
 clear hr0_1 hc0_1
 have HB := Aside0.mk (Below.refl w.heap.size w)
 have H : ((zZ.f k a0_0 l0_1).bind fun t200 => (if t200 = true then (zu.l0 k (([] : List Int)) 0 a0_0 l0_1) else (some ([] : List Int)))) = some r := h
 clear h
 replace H := Option.bind_eq_some_iff.mp H
 obtain ⟨t200, A20, H⟩ := H
 replace H : (if t200 = true then (zu.l0 k (([] : List Int)) 0 a0_0 l0_1) else (some ([] : List Int))) = some r := H
 have A2 := Aside0.mk A20
 clear A20
 by_cases c3 : t200 = true
 ·subst c3
  have H1 : (zu.l0 k (([] : List Int)) 0 a0_0 l0_1) = some r := by rw [if_pos rfl] at H; exact H
  clear H
  have H := H1
  clear H1
  obtain ⟨y201, hy201⟩ : ∃ y_ : List Int, y_ = (([] : List Int)) := ⟨_, rfl⟩
  replace H : (zu.l0 k y201 0 a0_0 l0_1) = some r := by first | (rw [hy201]; with_reducible exact H) | (have H2_ := (Option.bind_some _ _).symm.trans H; rw [hy201]; with_reducible exact H2_) | (have H2_ := (Option.bind_some _ _).symm.trans H; with_reducible exact H2_) | with_reducible exact H | (rw [hy201]; exact H) | exact H
  have Ny201 := Aside0.mk hy201
  clear hy201
  have H' := Aside0.mk H
  clear H
  go_enter Try.func20, Try.ntmps20
  go_wp2_with (first | ((with_reducible refine zr (N := 1) rfl ?_); refine zq ?hg (N := 1) ?hd (cs := #[.int .i64 a0_0, .slice A0_1 l0_1.length c0_1]) (t := 27) ?hr ?_; (case hd => rfl); (case hg => rfl); (case hr => exact sqG); intro gb199 hg w4 hbox hb; have n0_ := Aside0.mk (ze sqB hb); have n1_ := Aside0.mk (hbox); have n2_ := Aside0.mk ((sqS hg : w.heap.size ≤ gb199)); have n3_ := Aside0.mk ((sqS hg : w.heap.size ≤ gb199)); clear HB; have HB := n0_; have BK199 := n1_; have GW199 := n2_; have GE199 := n3_; clear n0_ n1_ n2_ n3_; clear hb hbox hg; have hcz5_0 : w4.cell? ⟨gb199, 0, none⟩ = some (.int .i64 a0_0) := (za BK199.out 0).trans rfl; have hcz5_1 : w4.cell? ⟨gb199, 1, none⟩ = some (.slice A0_1 l0_1.length c0_1) := (za BK199.out 1).trans rfl; have hfz5_0 := zb BK199.out 0; have hfz5_1 := zb BK199.out 1) | ((with_reducible refine zg (f := 50) rfl ?_); refine zx (some 6) rfl rfl Try.func50 (by kernel_rfl) rfl #[.agg #[.int .i64 a0_0, .slice A0_1 l0_1.length c0_1]] rfl sqM ?_; (with_reducible refine (zZ.calls k a0_0 _ _ l0_1 true _ ?side1 ?side2 A2.out).mono ?_); (case side1 => exact sqC (Kd.zH HR0_1.out HB.out)); (case side2 => exact HC0_1.out); rintro e w6 ⟨rfl, hb⟩; refine ⟨_, rfl, ?_⟩; have n0_ := Aside0.mk (zd (g := gb199) (o := .cells #[.int .i64 a0_0, .slice A0_1 l0_1.length c0_1] 27 (0, 0)) (sqK BK199.out) hb); have n1_ := Aside0.mk (ze sqB hb); clear BK199; clear HB; have BK199 := n0_; have HB := n1_; clear n0_ n1_; (try clear hb); (try clear hb2); (try clear hk); (try clear hi)) | ((with_reducible refine zr (N := 8) rfl ?_); refine Kd.yu (Kd.int .i64) _ 3 ?hg (N := 8) ?hd (xs := ([] : List Int)) (inner := []) (ok := fun _ => True) (okp := fun _ => True) ?hr ?hp (fun _ hk => hk) trivial (Below.refl _ _) (Nat.le_refl _) (by simp) ?_; (case hd => rfl); (case hg => rfl); (case hr => exact sqG); (case hp => exact (qm.none _ _)); intro v202 w7 ho8 hb hg_ hnew_; clear hg_ hnew_; (first | rw [← Ny201.out] at ho8 | (simp only [Int.reduceToNat] at ho8; rw [← Ny201.out] at ho8)); have n0_ := Aside0.mk (Kd.qf ho8 (zt sqB)); have n1_ := Aside0.mk (zd (g := gb199) (o := .cells #[.int .i64 a0_0, .slice A0_1 l0_1.length c0_1] 27 (0, 0)) (sqK BK199.out) hb); have n2_ := Aside0.mk (ze sqB hb); clear BK199; clear HB; have HO203 := n0_; have BK199 := n1_; have HB := n2_; clear n0_ n1_ n2_; clear hb ho8))
  go_loopg [3, 4] k (fun kq v3 v4 w' => ∃ (x3_1 : List Int) (x4_1 : Int), v4 = .int .i64 x4_1 ∧ Aside0 (zu.l0 kq x3_1 x4_1 a0_0 l0_1 = some r) ∧ Aside0 (kq ≤ k) ∧ Aside0 (Kd.R (Kd.int .i64) 3 w' w.heap.size (fun _ => True) v3 x3_1) ∧ Aside0 (w'.heap[gb199]? = some (.cells #[.int .i64 a0_0, (.slice A0_1 l0_1.length c0_1)] 27 (0, 0))) ∧ Aside0 (Below w.heap.size w w'))
  case atStart => exact ⟨(y201), (0), (sqD), H', ⟨Nat.le_refl _⟩, ⟨sqR HO203.out⟩, ⟨sqK BK199.out⟩, ⟨sqB⟩⟩
  case round =>
   clear H'
   try clear c2
   try clear p2
   try clear c3
   try clear c5
   try clear hcz5_0
   try clear hcz5_1
   try clear hfz5_0
   try clear hfz5_1
   obtain ⟨x3_1, x4_1, rfl, HA, HK1, HO_3, BK199, HB⟩ := hrel
   cases gk with
   | zero => exact absurd HA.out (by simp [zu.l0])
   | succ k1 =>
    have H := HA.out
    clear HA
    simp only [zu.l0] at H
    replace H := Option.bind_eq_some_iff.mp H
    obtain ⟨t204, A90, H⟩ := H
    replace H : (if x4_1 ≤ t204 then ((z1.f k1 a0_0 l0_1 x4_1).bind fun t205 => (if x3_1.length < 17592186044416 then (zu.l0 k1 (x3_1 ++ [t205]) (wrap64 (x4_1 + 1)) a0_0 l0_1) else (none))) else (some x3_1)) = some r := H
    have A9 := Aside0.mk A90
    clear A90
    by_cases c10 : x4_1 ≤ t204
    ·rw [if_pos c10] at H
     have c10b0 : decide (x4_1 ≤ t204) = true := decide_eq_true c10
     clear c10
     replace H := Option.bind_eq_some_iff.mp H
     obtain ⟨t205, A110, H⟩ := H
     replace H : (if x3_1.length < 17592186044416 then (zu.l0 k1 (x3_1 ++ [t205]) (wrap64 (x4_1 + 1)) a0_0 l0_1) else (none)) = some r := H
     have A11 := Aside0.mk A110
     clear A110
     by_cases c12 : x3_1.length < 17592186044416
     ·rw [if_pos c12] at H
      have LMc12 := Aside0.mk c12
      clear c12
      obtain ⟨y206, hy206⟩ : ∃ y_ : List Int, y_ = (x3_1 ++ [t205]) := ⟨_, rfl⟩
      replace H : (zu.l0 k1 y206 (wrap64 (x4_1 + 1)) a0_0 l0_1) = some r := by first | (rw [hy206]; with_reducible exact H) | (have H2_ := (Option.bind_some _ _).symm.trans H; rw [hy206]; with_reducible exact H2_) | (have H2_ := (Option.bind_some _ _).symm.trans H; with_reducible exact H2_) | with_reducible exact H | (rw [hy206]; exact H) | exact H
      have Ny206 := Aside0.mk hy206
      clear hy206
      have H' := Aside0.mk H
      clear H
      have hcz13_0 : wr.cell? ⟨gb199, 0, none⟩ = some (.int .i64 a0_0) := (za BK199.out 0).trans rfl
      have hcz13_1 : wr.cell? ⟨gb199, 1, none⟩ = some (.slice A0_1 l0_1.length c0_1) := (za BK199.out 1).trans rfl
      have hfz13_0 := zb BK199.out 0; have hfz13_1 := zb BK199.out 1
      go_wp2_with (first | ((with_reducible refine zg (f := 47) rfl ?_); refine zx (some 12) rfl rfl Try.func47 (by kernel_rfl) rfl #[.int .i64 a0_0] rfl sqM ?_; (with_reducible refine (zX.calls a0_0 t204 _ A9.out).mono ?_); rintro e w' ⟨rfl, ⟨nd, rfl⟩⟩; refine ⟨_, rfl, ?_⟩) | ((with_reducible refine zg (f := 46) rfl ?_); refine zx (some 19) rfl rfl Try.func46 (by kernel_rfl) rfl #[.agg #[.int .i64 a0_0, .slice A0_1 l0_1.length c0_1], .int .i64 x4_1] rfl sqM ?_; (with_reducible refine (z1.calls k1 a0_0 _ _ l0_1 x4_1 t205 _ ?side1 ?side2 A11.out).mono ?_); (case side1 => exact sqC (Kd.zH HR0_1.out sqB)); (case side2 => exact HC0_1.out); rintro e w14 ⟨rfl, hb⟩; refine ⟨_, rfl, ?_⟩; have n0_ := Aside0.mk (Kd.zJ (sqR HO_3.out) hb); have n1_ := Aside0.mk (zd (g := gb199) (o := .cells #[.int .i64 a0_0, .slice A0_1 l0_1.length c0_1] 27 (0, 0)) (sqK BK199.out) hb); have n2_ := Aside0.mk (ze sqB hb); clear HO_3; clear BK199; clear HB; have HO_3 := n0_; have BK199 := n1_; have HB := n2_; clear n0_ n1_ n2_; (try clear hb); (try clear hb2); (try clear hk); (try clear hi)) | ((with_reducible refine qK (b := .append) (xs := #[.tmp 16, .tmp 20]) rfl ?_); at_builtin; refine Kd.js (Kd.int .i64) (w0 := w) w.heap.size rfl (.tmp 16) (.tmp 20) 22 3 (.int .i64 0) 8 rfl Try.underlying22 vJ rfl (by decide) (by omega) u3 x3_1 t205 [.int .i64 t205] (fun _ => True) (fun _ => False) rfl rfl ?aP (fun _ hk => hk.elim) ?aF ?aO ?aB ?aS ?aL ?_; (case aP => exact rfl); (case aB => exact sqB); (case aF => exact (fun _ _ => trivial)); (case aO => exact (sqR HO_3.out)); (case aS => exact (zt sqB)); (case aL => have := LMc12.out; omega); intro v207 w15 ho hb hg hat; rw [← Ny206.out] at ho; have n0_ := Aside0.mk (qU (g := gb199) (o := .cells #[.int .i64 a0_0, .slice A0_1 l0_1.length c0_1] 27 (0, 0)) (sqK BK199.out) hg (Kd.vG HO_3.out BK199.out (by decide))); have n1_ := Aside0.mk (hb); have n2_ := Aside0.mk (ho); clear BK199; clear HB; clear HO_3; have BK199 := n0_; have HB := n1_; have HO208 := n2_; clear n0_ n1_ n2_; clear ho hb hg hat))
      go_roundg k1
      case measure => have := HK1.out; omega
      case rel => exact ⟨(y206), (wrap64 (x4_1 + 1)), (sqD), H', ⟨by have := HK1.out; omega⟩, ⟨sqR HO208.out⟩, ⟨sqK BK199.out⟩, ⟨sqB⟩⟩
     ·rw [if_neg c12] at H
      exact absurd H (by simp)
    ·rw [if_neg c10] at H
     have c10b0 : decide (x4_1 ≤ t204) = false := decide_eq_false c10
     clear c10
     obtain rfl := Option.some.inj H
     have hcz16_0 : wr.cell? ⟨gb199, 0, none⟩ = some (.int .i64 a0_0) := (za BK199.out 0).trans rfl
     have hcz16_1 : wr.cell? ⟨gb199, 1, none⟩ = some (.slice A0_1 l0_1.length c0_1) := (za BK199.out 1).trans rfl
     have hfz16_0 := zb BK199.out 0; have hfz16_1 := zb BK199.out 1
     go_wp2_with (first | ((with_reducible refine zg (f := 47) rfl ?_); refine zx (some 12) rfl rfl Try.func47 (by kernel_rfl) rfl #[.int .i64 a0_0] rfl sqM ?_; (with_reducible refine (zX.calls a0_0 t204 _ A9.out).mono ?_); rintro e w' ⟨rfl, ⟨nd, rfl⟩⟩; refine ⟨_, rfl, ?_⟩))
     go_ret
     exact ⟨_, sqE, sqR HO_3.out, sqB⟩
 ·replace c3 := Bool.eq_false_iff.mpr c3
  subst c3
  have H1 : (some ([] : List Int)) = some r := by rw [if_neg (show ¬ (false = true) by decide)] at H; exact H
  clear H
  have H := H1
  clear H1
  obtain rfl := Option.some.inj H
  go_enter Try.func20, Try.ntmps20
  go_wp2_with (first | ((with_reducible refine zr (N := 1) rfl ?_); refine zq ?hg (N := 1) ?hd (cs := #[.int .i64 a0_0, .slice A0_1 l0_1.length c0_1]) (t := 27) ?hr ?_; (case hd => rfl); (case hg => rfl); (case hr => exact sqG); intro gb199 hg w17 hbox hb; have n0_ := Aside0.mk (ze sqB hb); have n1_ := Aside0.mk (hbox); have n2_ := Aside0.mk ((sqS hg : w.heap.size ≤ gb199)); have n3_ := Aside0.mk ((sqS hg : w.heap.size ≤ gb199)); clear HB; have HB := n0_; have BK199 := n1_; have GW199 := n2_; have GE199 := n3_; clear n0_ n1_ n2_ n3_; clear hb hbox hg; have hcz18_0 : w17.cell? ⟨gb199, 0, none⟩ = some (.int .i64 a0_0) := (za BK199.out 0).trans rfl; have hcz18_1 : w17.cell? ⟨gb199, 1, none⟩ = some (.slice A0_1 l0_1.length c0_1) := (za BK199.out 1).trans rfl; have hfz18_0 := zb BK199.out 0; have hfz18_1 := zb BK199.out 1) | ((with_reducible refine zg (f := 50) rfl ?_); refine zx (some 6) rfl rfl Try.func50 (by kernel_rfl) rfl #[.agg #[.int .i64 a0_0, .slice A0_1 l0_1.length c0_1]] rfl sqM ?_; (with_reducible refine (zZ.calls k a0_0 _ _ l0_1 false _ ?side1 ?side2 A2.out).mono ?_); (case side1 => exact sqC (Kd.zH HR0_1.out HB.out)); (case side2 => exact HC0_1.out); rintro e w19 ⟨rfl, hb⟩; refine ⟨_, rfl, ?_⟩; have n0_ := Aside0.mk (zd (g := gb199) (o := .cells #[.int .i64 a0_0, .slice A0_1 l0_1.length c0_1] 27 (0, 0)) (sqK BK199.out) hb); have n1_ := Aside0.mk (ze sqB hb); clear BK199; clear HB; have BK199 := n0_; have HB := n1_; clear n0_ n1_; (try clear hb); (try clear hb2); (try clear hk); (try clear hi)))
  go_ret
  exact ⟨_, sqE, sqN, sqB⟩

end Go.Proofs.Ytmeopnlkddflaaa.F
end
section
namespace Go.Proofs.Ytmeopnlkddflaaa.F
open Go.RowKit Go.Proofs.YtmeopnlkddflaaaW.PrintWords Go.Proofs.YtmeopnlkddflaaaW.PrintLast Go.Proofs.YtmeopnlkddflaaaW.PrintMore
set_option linter.unusedSimpArgs false
set_option linter.unusedVariables false
def jA (q : Int → Option Bool) : Nat → Int → List Int → Int → Option (List Int)
  | 0, _, _, _ => none
  | k + 1, n, out, s => (zX.f n).bind fun t => if s ≤ t then ((q s).bind fun b => if b = true then (if out.length < 17592186044416 then jA q k n (out ++ [s]) (wrap64 (s + 1)) else none) else jA q k n out (wrap64 (s + 1))) else some out
theorem jN (q : Int → Option Bool) (g : Nat) (lb : Array Value) (eg : ∀ args w, (callFunc g args).run Try.prog w = .ok (.enter g args) w) (k : Nat) (n : Int) (r : List Int) (w : World) (hp : y8 g lb q w) (h : jA q k n [] 0 = some r) :
    Calls Try.prog 57 #[.int .i64 n, .func (.func g) #[] lb] w fun e w' => ∃ v0_ : Value, e = .returned (v0_) ∧ Kd.R (Kd.int .i64) 3 w' w.heap.size (fun _ => True) v0_ r ∧ Below w.heap.size w w' := by
  have HB := Aside0.mk (Below.refl w.heap.size w)
  have HP := Aside0.mk hp
  clear hp
  obtain ⟨yL, hyL⟩ : ∃ y_ : List Int, y_ = (([] : List Int)) := ⟨_, rfl⟩
  have H' := Aside0.mk (show jA q k n yL 0 = some r by rw [hyL]; exact h)
  clear h
  have NyL := Aside0.mk hyL
  clear hyL
  go_enter Try.func57, Try.ntmps57
  go_wp2_with (first | ((with_reducible refine zr (N := 7) rfl ?_); refine Kd.yu (Kd.int .i64) _ 3 ?hg (N := 7) ?hd (xs := ([] : List Int)) (inner := []) (ok := fun _ => True) (okp := fun _ => True) ?hr ?hp (fun _ hk => hk) trivial (Below.refl _ _) (Nat.le_refl _) (by simp) ?_; (case hd => rfl); (case hg => rfl); (case hr => exact sqG); (case hp => exact (qm.none _ _)); intro vL wL hoL hb hg_ hnew_; clear hg_ hnew_; (first | rw [← NyL.out] at hoL | (simp only [Int.reduceToNat] at hoL; rw [← NyL.out] at hoL)); have n0_ := Aside0.mk (Kd.qf hoL (zt sqB)); have n1_ := Aside0.mk (ze sqB hb); clear HB; have HOL := n0_; have HB := n1_; clear n0_ n1_; clear hb hoL))
  go_loopg [5, 6] k (fun kq v5 v6 w' => ∃ (out : List Int) (s : Int), v6 = .int .i64 s ∧ Aside0 (jA q kq n out s = some r) ∧ Aside0 (kq ≤ k) ∧ Aside0 (Kd.R (Kd.int .i64) 3 w' w.heap.size (fun _ => True) v5 out) ∧ Aside0 (Below w.heap.size w w'))
  case atStart => exact ⟨yL, 0, rfl, H', ⟨Nat.le_refl _⟩, ⟨sqR HOL.out⟩, ⟨sqB⟩⟩
  case round =>
    clear H'
    obtain ⟨out, s, rfl, HA, HK1, HO, HB⟩ := hrel
    cases gk with
    | zero => exact absurd HA.out (by simp [jA])
    | succ k1 =>
      have H := HA.out
      clear HA
      simp only [jA] at H
      obtain ⟨t, ht, H⟩ := Option.bind_eq_some_iff.mp H
      have AT := Aside0.mk ht
      clear ht
      by_cases c1 : s ≤ t
      · rw [if_pos c1] at H
        obtain ⟨b, hb, H⟩ := Option.bind_eq_some_iff.mp H
        have AB := Aside0.mk hb
        clear hb
        have c1b0 : decide (s ≤ t) = true := decide_eq_true c1
        clear c1
        cases b with
        | true =>
          have H1 : (if out.length < 17592186044416 then jA q k1 n (out ++ [s]) (wrap64 (s + 1)) else none) = some r := by simpa using H
          clear H
          by_cases c2 : out.length < 17592186044416
          · rw [if_pos c2] at H1
            have HLen := Aside0.mk c2
            clear c2
            obtain ⟨yA, hyA⟩ : ∃ y_ : List Int, y_ = (out ++ [s]) := ⟨_, rfl⟩
            rw [← hyA] at H1
            have NyA := Aside0.mk hyA
            have H' := Aside0.mk H1
            clear H1 hyA
            go_wp2_with ((with_reducible refine zg (f := 47) rfl ?_); refine zx (some 10) rfl rfl Try.func47 (by kernel_rfl) rfl #[.int .i64 n] rfl (by (try simp only [List.map_toArray, List.map_cons, List.map_nil]); first | done | rfl) ?_; (with_reducible refine (zX.calls n t _ AT.out).mono ?_); rintro e w' ⟨rfl, ⟨nd, rfl⟩⟩; refine ⟨_, rfl, ?_⟩)
            refine (HP.out _ _ _ AB.out sqB).mono ?_
            rintro e w9 ⟨rfl, hb⟩
            have n0_ := Aside0.mk (ze (w := w) sqB hb)
            have n1_ := Aside0.mk (Kd.zJ (sqR HO.out) hb)
            clear HB HO hb; have HB := n0_; have HO := n1_; clear n0_ n1_
            go_wp2_with ((with_reducible refine qK (b := .append) (xs := #[.tmp 17, .tmp 19]) rfl ?_); at_builtin; refine Kd.js (Kd.int .i64) (w0 := w) w.heap.size rfl (.tmp 17) (.tmp 19) 22 3 (.int .i64 0) 8 rfl Try.underlying22 vJ rfl (by decide) (by omega) u5 out s [.int .i64 s] (fun _ => True) (fun _ => False) rfl rfl ?aP (fun _ hk => hk.elim) ?aF ?aO ?aB ?aS ?aL ?_; (case aP => exact rfl); (case aB => exact sqB); (case aF => exact (fun _ _ => trivial)); (case aO => exact (sqR HO.out)); (case aS => exact (zt sqB)); (case aL => have := HLen.out; omega); intro v161 w8 ho hb hg hat; rw [← NyA.out] at ho; have n0_ := Aside0.mk (hb); have n1_ := Aside0.mk (ho); clear HB; clear HO; have HB := n0_; have HOA := n1_; clear n0_ n1_; clear ho hb hg hat)
            go_roundg k1
            case measure => have := HK1.out; omega
            case rel => exact ⟨yA, wrap64 (s + 1), rfl, H', ⟨by have := HK1.out; omega⟩, ⟨sqR HOA.out⟩, ⟨sqB⟩⟩
          · rw [if_neg c2] at H1
            exact absurd H1 (by simp)
        | false =>
          have H' := Aside0.mk (show jA q k1 n out (wrap64 (s + 1)) = some r by simpa using H)
          clear H
          go_wp2_with ((with_reducible refine zg (f := 47) rfl ?_); refine zx (some 10) rfl rfl Try.func47 (by kernel_rfl) rfl #[.int .i64 n] rfl (by (try simp only [List.map_toArray, List.map_cons, List.map_nil]); first | done | rfl) ?_; (with_reducible refine (zX.calls n t _ AT.out).mono ?_); rintro e w' ⟨rfl, ⟨nd, rfl⟩⟩; refine ⟨_, rfl, ?_⟩)
          refine (HP.out _ _ _ AB.out sqB).mono ?_
          rintro e w9 ⟨rfl, hb⟩
          have n0_ := Aside0.mk (ze (w := w) sqB hb)
          have n1_ := Aside0.mk (Kd.zJ (sqR HO.out) hb)
          clear HB HO hb; have HB := n0_; have HO := n1_; clear n0_ n1_
          go_wp2
          go_roundg k1
          case measure => have := HK1.out; omega
          case rel => exact ⟨out, wrap64 (s + 1), rfl, H', ⟨by have := HK1.out; omega⟩, HO, HB⟩
      · rw [if_neg c1] at H
        have c1b0 : decide (s ≤ t) = false := decide_eq_false c1
        clear c1
        obtain rfl := Option.some.inj H
        go_wp2_with ((with_reducible refine zg (f := 47) rfl ?_); refine zx (some 10) rfl rfl Try.func47 (by kernel_rfl) rfl #[.int .i64 n] rfl (by (try simp only [List.map_toArray, List.map_cons, List.map_nil]); first | done | rfl) ?_; (with_reducible refine (zX.calls n t _ AT.out).mono ?_); rintro e w' ⟨rfl, ⟨nd, rfl⟩⟩; refine ⟨_, rfl, ?_⟩)
        go_ret
        exact ⟨_, rfl, sqR HO.out, sqB⟩
end Go.Proofs.Ytmeopnlkddflaaa.F
end
section
namespace Go.Proofs.Ytmeopnlkddflaaa.F
open Go.RowKit Go.Proofs.YtmeopnlkddflaaaW.PrintWords Go.Proofs.YtmeopnlkddflaaaW.PrintLast Go.Proofs.YtmeopnlkddflaaaW.PrintMore
set_option linter.unusedSimpArgs false
set_option linter.unusedVariables false
def zv.q (l : List Int) (r : Int) (s : Int) : Option Bool := if 0 ≤ s then (if s < (l.length : Int) then (if rd l s = r then ((qE.f s).bind fun t => some (decide (t = r))) else some false) else none) else none
def zv.f (k : Nat) (a0 : Int) (l1 : List Int) (r : Int) : Option (List Int) := jA (zv.q l1 r) k a0 [] 0
theorem zv.pred (l : List Int) (r : Int) (A : Option Addr) (c gl g6 : Nat) (w : World) (hm : w.heap[gl]? = some (.cells #[.slice A l.length c] 22 (0, 0))) (h6 : w.heap[g6]? = some (.cells #[.int .i64 r] 3 (0, 0)))
    (hr : Kd.C (Kd.int .i64) w A l.length l) (hc : l.length ≤ c) : y8 58 #[.pointer (some ⟨gl, 0, none⟩), .pointer (some ⟨g6, 0, none⟩)] (zv.q l r) w := by
  intro W x b hq hb
  unfold zv.q at hq
  by_cases h0 : 0 ≤ x
  case neg => rw [if_neg h0] at hq; exact absurd hq (by simp)
  rw [if_pos h0] at hq
  by_cases h1 : x < (l.length : Int)
  case neg => rw [if_neg h1] at hq; exact absurd hq (by simp)
  rw [if_pos h1] at hq
  obtain ⟨ad, ead, hx⟩ := Kd.zG (Kd.zH hr hb) x h0 h1
  cases ead
  have hc0 : W.cell? ⟨gl, 0, none⟩ = some (.slice (some ad) l.length c) := (za (zd hm hb) 0).trans rfl
  have hc1 : W.cell? ⟨g6, 0, none⟩ = some (.int .i64 r) := (za (zd h6 hb) 0).trans rfl
  have c0b0 : decide (0 ≤ x) = true := decide_eq_true h0
  have c1b0 : decide (x < (l.length : Int)) = true := decide_eq_true h1
  replace h0 := eq_true h0
  replace h1 := eq_true h1
  clear hm h6 hr hc hb
  by_cases h2 : rd l x = r
  · rw [if_pos h2] at hq
    obtain ⟨t, ht, hq⟩ := Option.bind_eq_some_iff.mp hq
    obtain rfl := Option.some.inj hq
    have H := Aside0.mk ht
    clear hq ht
    have c2b0 : ((rd l x) == r) = true := beq_iff_eq.mpr h2
    have c2b1 : ((rd l x) != r) = false := bne_eq_false_iff_eq.mpr h2
    clear h2
    go_enter Try.func58, Try.ntmps58
    go_wp2
    repeat (go_quiet ((go_at_call 45; (try simp only [zl, zo]); (with_reducible refine (qE.calls x t _ H.out).mono ?_); rintro e w' ⟨rfl, ⟨nd, rfl⟩⟩; (try first | exact ⟨rfl, _, World.drewN_drewN _ _ _⟩ | exact ⟨rfl, _, Eq.trans (World.drewN_drewN _ _ _) (congrArg (World.drewN _) (Nat.add_assoc _ _ _))⟩))); try go_wp2)
    go_ret
    exact ⟨by first | rfl | (simp; done), by repeat (first | exact Below.refl _ _ | apply qb | apply zD)⟩
  · rw [if_neg h2] at hq
    obtain rfl := Option.some.inj hq
    clear hq
    have c2b0 : ((rd l x) == r) = false := beq_eq_false_iff_ne.mpr h2
    have c2b1 : ((rd l x) != r) = true := bne_iff_ne.mpr h2
    clear h2
    go_enter Try.func58, Try.ntmps58
    go_wp2
    repeat (go_quiet (skip); try go_wp2)
    go_ret
    exact ⟨by first | rfl | (simp; done), by repeat (first | exact Below.refl _ _ | apply qb | apply zD)⟩
end Go.Proofs.Ytmeopnlkddflaaa.F
end
