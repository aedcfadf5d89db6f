/- Several texts of this session in one: Fx3, Fx4, Laid, Base, LSort, GvSort, Fx6, GvFunc. Conditions: as each theorem says. -/
import Derived.Test.YteggmbhcnhbamaaGreatZFromFlats0
import Derived.Test.YteggmbhcnhbamaaGreatZFromFlats1
import Derived.Test.YteggmbhcnhbamaaGreatZFromFlats2
import Derived.Shelf.Small.Bits
import Derived.Shelf.Strconv.Itoa0
import Derived.Shelf.Sort.Plain
import Derived.Ground.Names2Prog
import Derived.Shelf.Slices.CompactI
import Derived.Shelf.Slices.SearchI
import Derived.Shelf.Slices.Cells
import Derived.Shelf.Slices.In.SortNone
import Derived.Test.YteggmbhcnhbamaaGreatProg
import Derived.Lib.SlicesCompact
import Derived.Lib.RowBridge
import Derived.Sort.OwnSortedInts
import Derived.Lib.OwnBridge
import Derived.Shelf.Abstract
set_option maxHeartbeats 8000000
set_option maxRecDepth 100000
section
namespace Go.Proofs.YteggmbhcnhbamaaGreat.F
open Go.RowKit Go.Proofs.YteggmbhcnhbamaaGreatW.PrintWords Go.Proofs.YteggmbhcnhbamaaGreatW.PrintLast Go.Proofs.YteggmbhcnhbamaaGreatW.PrintMore
attribute [local go_sem] jG jJ jZ jV jr jq jF jI   -- for this text's walks alone
set_option linter.unusedVariables false
set_option linter.unusedSimpArgs false

def qD.f (k : Nat) (a0_0 : Int) (l0_1 : List Int) : Option (Bool) := (zy.f k a0_0 l0_1).bind fun bt183 => ((zS.f k a0_0 l0_1).bind fun t188 => (if t188 = true then (if (l0_1.length : Int) > 0 then (some (!bt183.2.2.2)) else (some false)) else (some false)))
theorem qD.calls (k : Nat) (a0_0 : Int) (A0_1 : Option Addr) (c0_1 : Nat) (l0_1 : List Int) (r : Bool) (w : World) (hr0_1 : Kd.C (Kd.int .i64) w A0_1 l0_1.length l0_1) (hc0_1 : l0_1.length ≤ c0_1) (h : qD.f k a0_0 l0_1 = some r) :
  Calls Tryz.prog 30 #[.agg #[.int .i64 a0_0, .slice A0_1 l0_1.length c0_1]] w fun e w' => e = .returned (.bool r) ∧ Below w.heap.size w w' := by
 have hu24 := Tryz.underlying24
 have hu46 := Tryz.underlying46
 have HR0_1 := Aside0.mk hr0_1
 have HC0_1 := Aside0.mk hc0_1
 clear hr0_1 hc0_1
 have HB := Aside0.mk (Below.refl w.heap.size w)
 have H : ((zy.f k a0_0 l0_1).bind fun bt183 => ((zS.f k a0_0 l0_1).bind fun t188 => (if t188 = true then (if (l0_1.length : Int) > 0 then (some (!bt183.2.2.2)) else (some false)) else (some false)))) = some r := h
 clear h
 replace H := Option.bind_eq_some_iff.mp H
 obtain ⟨⟨t183, t184, t185, t186⟩, A20, H⟩ := H
 replace H : ((zS.f k a0_0 l0_1).bind fun t188 => (if t188 = true then (if (l0_1.length : Int) > 0 then (some (!t186)) else (some false)) else (some false))) = some r := H
 have A2 := Aside0.mk A20
 clear A20
 replace H := Option.bind_eq_some_iff.mp H
 obtain ⟨t188, A30, H⟩ := H
 replace H : (if t188 = true then (if (l0_1.length : Int) > 0 then (some (!t186)) else (some false)) else (some false)) = some r := H
 have A3 := Aside0.mk A30
 clear A30
 by_cases c4 : t188 = true
 ·subst c4
  have H1 : (if (l0_1.length : Int) > 0 then (some (!t186)) else (some false)) = some r := by rw [if_pos rfl] at H; exact H
  clear H
  have H := H1
  clear H1
  by_cases c5 : (l0_1.length : Int) > 0
  ·rw [if_pos c5] at H
   have c5b0 : decide (0 < (l0_1.length : Int)) = true := decide_eq_true c5
   have c5b1 : decide (0 < l0_1.length) = true := decide_eq_true (by omega)
   clear c5
   obtain rfl := Option.some.inj H
   go_enter Tryz.func30, Tryz.ntmps30
   go_wp2_with (first | ((with_reducible refine zm (N := 1) rfl ?_); (try (refine jA (by rfl) ?_; dsimp only)); refine zq ?hg (N := 1) ?hd (cs := #[.int .i64 a0_0, .slice A0_1 l0_1.length c0_1]) (t := 24) ?hr ?_; (case hd => rfl); (case hg => rfl); (case hr => exact sqG); intro gb182 hg w6 hbox hb; have n0_ := Aside0.mk (zc sqB hb); have n1_ := Aside0.mk (hbox); have n2_ := Aside0.mk ((sqS hg : w.heap.size ≤ gb182)); have n3_ := Aside0.mk ((sqS hg : w.heap.size ≤ gb182)); clear HB; have HB := n0_; have BK182 := n1_; have GW182 := n2_; have GE182 := n3_; clear n0_ n1_ n2_ n3_; clear hb hbox hg; have hcz7_0 : w6.cell? ⟨gb182, 0, none⟩ = some (.int .i64 a0_0) := (za BK182.out 0).trans rfl; have hcz7_1 : w6.cell? ⟨gb182, 1, none⟩ = some (.slice A0_1 l0_1.length c0_1) := (za BK182.out 1).trans rfl; have hfz7_0 := zb BK182.out 0; have hfz7_1 := zb BK182.out 1) | ((with_reducible refine ze (f := 48) rfl ?_); refine zv (some 7) rfl rfl Tryz.func48 (by kernel_rfl) rfl #[.agg #[.int .i64 a0_0, .slice A0_1 l0_1.length c0_1]] rfl sqM ?_; (with_reducible refine (zy.calls k a0_0 _ _ l0_1 t183 t184 t185 t186 _ ?side1 ?side2 A2.out).mono ?_); (case side1 => exact sqC (Kd.zt HR0_1.out HB.out)); (case side2 => exact HC0_1.out); rintro e w8 ⟨rfl, hb⟩; refine ⟨_, rfl, ?_⟩; have n0_ := Aside0.mk (zd (g := gb182) (o := .cells #[.int .i64 a0_0, .slice A0_1 l0_1.length c0_1] 24 (0, 0)) (sqK BK182.out) hb); have n1_ := Aside0.mk (zc sqB hb); clear BK182; clear HB; have BK182 := n0_; have HB := n1_; clear n0_ n1_; (try clear hb); (try clear hb2); (try clear hk); (try clear hi)) | ((with_reducible refine zm (N := 3) rfl ?_); (try (refine jA (by rfl) ?_; dsimp only)); refine zq ?hg (N := 3) ?hd (cs := #[.int .i64 0, .int .i64 0, .int .i64 0]) (t := 46) ?hr ?_; (case hd => rfl); (case hg => rfl); (case hr => exact sqG); intro gb187 hg w9 hbox hb; have n0_ := Aside0.mk (zd (g := gb182) (o := .cells #[.int .i64 a0_0, .slice A0_1 l0_1.length c0_1] 24 (0, 0)) (sqK BK182.out) hb); have n1_ := Aside0.mk (zc sqB hb); have n2_ := Aside0.mk (hbox); have n3_ := Aside0.mk ((sqS hg : w.heap.size ≤ gb187)); have n4_ := Aside0.mk ((sqS hg : w.heap.size ≤ gb187)); have n5_ := Aside0.mk ((by rw [hg]; exact Nat.ne_of_lt (zU (g := gb182) (o := .cells #[.int .i64 a0_0, .slice A0_1 l0_1.length c0_1] 24 (0, 0)) (sqK BK182.out)) : gb182 ≠ gb187)); have n6_ := Aside0.mk ((by rw [hg]; exact Nat.ne_of_gt (zU (g := gb182) (o := .cells #[.int .i64 a0_0, .slice A0_1 l0_1.length c0_1] 24 (0, 0)) (sqK BK182.out)) : gb187 ≠ gb182)); clear BK182; clear HB; have BK182 := n0_; have HB := n1_; have BK187 := n2_; have GW187 := n3_; have GE187 := n4_; have NB182_187 := n5_; have NB187_182 := n6_; clear n0_ n1_ n2_ n3_ n4_ n5_ n6_; clear hb hbox hg; have hnb10 := NB187_182.out; have hnc10 := NB182_187.out; have hcz11_0 : w9.cell? ⟨gb187, 0, none⟩ = some (.int .i64 0) := (za BK187.out 0).trans rfl; have hcz11_1 : w9.cell? ⟨gb187, 1, none⟩ = some (.int .i64 0) := (za BK187.out 1).trans rfl; have hcz11_2 : w9.cell? ⟨gb187, 2, none⟩ = some (.int .i64 0) := (za BK187.out 2).trans rfl; have hfz11_0 := zb BK187.out 0; have hfz11_1 := zb BK187.out 1; have hfz11_2 := zb BK187.out 2; have hcz12_0 : w9.cell? ⟨gb182, 0, none⟩ = some (.int .i64 a0_0) := (za BK182.out 0).trans rfl; have hcz12_1 : w9.cell? ⟨gb182, 1, none⟩ = some (.slice A0_1 l0_1.length c0_1) := (za BK182.out 1).trans rfl; have hfz12_0 := zb BK182.out 0; have hfz12_1 := zb BK182.out 1) | ((with_reducible refine ze (f := 12) rfl ?_); refine zv (some 14) rfl rfl Tryz.func12 (by kernel_rfl) rfl #[.int .i64 a0_0, .slice A0_1 l0_1.length c0_1] rfl sqM ?_; (with_reducible refine (zS.calls k a0_0 _ _ l0_1 true _ ?side1 ?side2 A3.out).mono ?_); (case side1 => exact Kd.zt HR0_1.out sqB); (case side2 => exact HC0_1.out); rintro e w' ⟨rfl, ⟨nd, rfl⟩⟩; refine ⟨_, rfl, ?_⟩))
   go_ret
   exact ⟨sqE, sqB⟩
  ·rw [if_neg c5] at H
   have c5b0 : decide (0 < (l0_1.length : Int)) = false := decide_eq_false c5
   have c5b1 : decide (0 < l0_1.length) = false := decide_eq_false (by omega)
   clear c5
   obtain rfl := Option.some.inj H
   go_enter Tryz.func30, Tryz.ntmps30
   go_wp2_with (first | ((with_reducible refine zm (N := 1) rfl ?_); (try (refine jA (by rfl) ?_; dsimp only)); refine zq ?hg (N := 1) ?hd (cs := #[.int .i64 a0_0, .slice A0_1 l0_1.length c0_1]) (t := 24) ?hr ?_; (case hd => rfl); (case hg => rfl); (case hr => exact sqG); intro gb182 hg w13 hbox hb; have n0_ := Aside0.mk (zc sqB hb); have n1_ := Aside0.mk (hbox); have n2_ := Aside0.mk ((sqS hg : w.heap.size ≤ gb182)); have n3_ := Aside0.mk ((sqS hg : w.heap.size ≤ gb182)); clear HB; have HB := n0_; have BK182 := n1_; have GW182 := n2_; have GE182 := n3_; clear n0_ n1_ n2_ n3_; clear hb hbox hg; have hcz14_0 : w13.cell? ⟨gb182, 0, none⟩ = some (.int .i64 a0_0) := (za BK182.out 0).trans rfl; have hcz14_1 : w13.cell? ⟨gb182, 1, none⟩ = some (.slice A0_1 l0_1.length c0_1) := (za BK182.out 1).trans rfl; have hfz14_0 := zb BK182.out 0; have hfz14_1 := zb BK182.out 1) | ((with_reducible refine ze (f := 48) rfl ?_); refine zv (some 7) rfl rfl Tryz.func48 (by kernel_rfl) rfl #[.agg #[.int .i64 a0_0, .slice A0_1 l0_1.length c0_1]] rfl sqM ?_; (with_reducible refine (zy.calls k a0_0 _ _ l0_1 t183 t184 t185 t186 _ ?side1 ?side2 A2.out).mono ?_); (case side1 => exact sqC (Kd.zt HR0_1.out HB.out)); (case side2 => exact HC0_1.out); rintro e w15 ⟨rfl, hb⟩; refine ⟨_, rfl, ?_⟩; have n0_ := Aside0.mk (zd (g := gb182) (o := .cells #[.int .i64 a0_0, .slice A0_1 l0_1.length c0_1] 24 (0, 0)) (sqK BK182.out) hb); have n1_ := Aside0.mk (zc sqB hb); clear BK182; clear HB; have BK182 := n0_; have HB := n1_; clear n0_ n1_; (try clear hb); (try clear hb2); (try clear hk); (try clear hi)) | ((with_reducible refine zm (N := 3) rfl ?_); (try (refine jA (by rfl) ?_; dsimp only)); refine zq ?hg (N := 3) ?hd (cs := #[.int .i64 0, .int .i64 0, .int .i64 0]) (t := 46) ?hr ?_; (case hd => rfl); (case hg => rfl); (case hr => exact sqG); intro gb187 hg w16 hbox hb; have n0_ := Aside0.mk (zd (g := gb182) (o := .cells #[.int .i64 a0_0, .slice A0_1 l0_1.length c0_1] 24 (0, 0)) (sqK BK182.out) hb); have n1_ := Aside0.mk (zc sqB hb); have n2_ := Aside0.mk (hbox); have n3_ := Aside0.mk ((sqS hg : w.heap.size ≤ gb187)); have n4_ := Aside0.mk ((sqS hg : w.heap.size ≤ gb187)); have n5_ := Aside0.mk ((by rw [hg]; exact Nat.ne_of_lt (zU (g := gb182) (o := .cells #[.int .i64 a0_0, .slice A0_1 l0_1.length c0_1] 24 (0, 0)) (sqK BK182.out)) : gb182 ≠ gb187)); have n6_ := Aside0.mk ((by rw [hg]; exact Nat.ne_of_gt (zU (g := gb182) (o := .cells #[.int .i64 a0_0, .slice A0_1 l0_1.length c0_1] 24 (0, 0)) (sqK BK182.out)) : gb187 ≠ gb182)); clear BK182; clear HB; have BK182 := n0_; have HB := n1_; have BK187 := n2_; have GW187 := n3_; have GE187 := n4_; have NB182_187 := n5_; have NB187_182 := n6_; clear n0_ n1_ n2_ n3_ n4_ n5_ n6_; clear hb hbox hg; have hnb17 := NB187_182.out; have hnc17 := NB182_187.out; have hcz18_0 : w16.cell? ⟨gb187, 0, none⟩ = some (.int .i64 0) := (za BK187.out 0).trans rfl; have hcz18_1 : w16.cell? ⟨gb187, 1, none⟩ = some (.int .i64 0) := (za BK187.out 1).trans rfl; have hcz18_2 : w16.cell? ⟨gb187, 2, none⟩ = some (.int .i64 0) := (za BK187.out 2).trans rfl; have hfz18_0 := zb BK187.out 0; have hfz18_1 := zb BK187.out 1; have hfz18_2 := zb BK187.out 2; have hcz19_0 : w16.cell? ⟨gb182, 0, none⟩ = some (.int .i64 a0_0) := (za BK182.out 0).trans rfl; have hcz19_1 : w16.cell? ⟨gb182, 1, none⟩ = some (.slice A0_1 l0_1.length c0_1) := (za BK182.out 1).trans rfl; have hfz19_0 := zb BK182.out 0; have hfz19_1 := zb BK182.out 1) | ((with_reducible refine ze (f := 12) rfl ?_); refine zv (some 14) rfl rfl Tryz.func12 (by kernel_rfl) rfl #[.int .i64 a0_0, .slice A0_1 l0_1.length c0_1] rfl sqM ?_; (with_reducible refine (zS.calls k a0_0 _ _ l0_1 true _ ?side1 ?side2 A3.out).mono ?_); (case side1 => exact Kd.zt HR0_1.out sqB); (case side2 => exact HC0_1.out); rintro e w' ⟨rfl, ⟨nd, rfl⟩⟩; refine ⟨_, rfl, ?_⟩))
   go_ret
   exact ⟨sqE, sqB⟩
 ·replace c4 := Bool.eq_false_iff.mpr c4
  subst c4
  have H1 : (some false) = some r := by rw [if_neg (show ¬ (false = true) by decide)] at H; exact H
  clear H
  have H := H1
  clear H1
  obtain rfl := Option.some.inj H
  go_enter Tryz.func30, Tryz.ntmps30
  go_wp2_with (first | ((with_reducible refine zm (N := 1) rfl ?_); (try (refine jA (by rfl) ?_; dsimp only)); refine zq ?hg (N := 1) ?hd (cs := #[.int .i64 a0_0, .slice A0_1 l0_1.length c0_1]) (t := 24) ?hr ?_; (case hd => rfl); (case hg => rfl); (case hr => exact sqG); intro gb182 hg w20 hbox hb; have n0_ := Aside0.mk (zc sqB hb); have n1_ := Aside0.mk (hbox); have n2_ := Aside0.mk ((sqS hg : w.heap.size ≤ gb182)); have n3_ := Aside0.mk ((sqS hg : w.heap.size ≤ gb182)); clear HB; have HB := n0_; have BK182 := n1_; have GW182 := n2_; have GE182 := n3_; clear n0_ n1_ n2_ n3_; clear hb hbox hg; have hcz21_0 : w20.cell? ⟨gb182, 0, none⟩ = some (.int .i64 a0_0) := (za BK182.out 0).trans rfl; have hcz21_1 : w20.cell? ⟨gb182, 1, none⟩ = some (.slice A0_1 l0_1.length c0_1) := (za BK182.out 1).trans rfl; have hfz21_0 := zb BK182.out 0; have hfz21_1 := zb BK182.out 1) | ((with_reducible refine ze (f := 48) rfl ?_); refine zv (some 7) rfl rfl Tryz.func48 (by kernel_rfl) rfl #[.agg #[.int .i64 a0_0, .slice A0_1 l0_1.length c0_1]] rfl sqM ?_; (with_reducible refine (zy.calls k a0_0 _ _ l0_1 t183 t184 t185 t186 _ ?side1 ?side2 A2.out).mono ?_); (case side1 => exact sqC (Kd.zt HR0_1.out HB.out)); (case side2 => exact HC0_1.out); rintro e w22 ⟨rfl, hb⟩; refine ⟨_, rfl, ?_⟩; have n0_ := Aside0.mk (zd (g := gb182) (o := .cells #[.int .i64 a0_0, .slice A0_1 l0_1.length c0_1] 24 (0, 0)) (sqK BK182.out) hb); have n1_ := Aside0.mk (zc sqB hb); clear BK182; clear HB; have BK182 := n0_; have HB := n1_; clear n0_ n1_; (try clear hb); (try clear hb2); (try clear hk); (try clear hi)) | ((with_reducible refine zm (N := 3) rfl ?_); (try (refine jA (by rfl) ?_; dsimp only)); refine zq ?hg (N := 3) ?hd (cs := #[.int .i64 0, .int .i64 0, .int .i64 0]) (t := 46) ?hr ?_; (case hd => rfl); (case hg => rfl); (case hr => exact sqG); intro gb187 hg w23 hbox hb; have n0_ := Aside0.mk (zd (g := gb182) (o := .cells #[.int .i64 a0_0, .slice A0_1 l0_1.length c0_1] 24 (0, 0)) (sqK BK182.out) hb); have n1_ := Aside0.mk (zc sqB hb); have n2_ := Aside0.mk (hbox); have n3_ := Aside0.mk ((sqS hg : w.heap.size ≤ gb187)); have n4_ := Aside0.mk ((sqS hg : w.heap.size ≤ gb187)); have n5_ := Aside0.mk ((by rw [hg]; exact Nat.ne_of_lt (zU (g := gb182) (o := .cells #[.int .i64 a0_0, .slice A0_1 l0_1.length c0_1] 24 (0, 0)) (sqK BK182.out)) : gb182 ≠ gb187)); have n6_ := Aside0.mk ((by rw [hg]; exact Nat.ne_of_gt (zU (g := gb182) (o := .cells #[.int .i64 a0_0, .slice A0_1 l0_1.length c0_1] 24 (0, 0)) (sqK BK182.out)) : gb187 ≠ gb182)); clear BK182; clear HB; have BK182 := n0_; have HB := n1_; have BK187 := n2_; have GW187 := n3_; have GE187 := n4_; have NB182_187 := n5_; have NB187_182 := n6_; clear n0_ n1_ n2_ n3_ n4_ n5_ n6_; clear hb hbox hg; have hnb24 := NB187_182.out; have hnc24 := NB182_187.out; have hcz25_0 : w23.cell? ⟨gb187, 0, none⟩ = some (.int .i64 0) := (za BK187.out 0).trans rfl; have hcz25_1 : w23.cell? ⟨gb187, 1, none⟩ = some (.int .i64 0) := (za BK187.out 1).trans rfl; have hcz25_2 : w23.cell? ⟨gb187, 2, none⟩ = some (.int .i64 0) := (za BK187.out 2).trans rfl; have hfz25_0 := zb BK187.out 0; have hfz25_1 := zb BK187.out 1; have hfz25_2 := zb BK187.out 2; have hcz26_0 : w23.cell? ⟨gb182, 0, none⟩ = some (.int .i64 a0_0) := (za BK182.out 0).trans rfl; have hcz26_1 : w23.cell? ⟨gb182, 1, none⟩ = some (.slice A0_1 l0_1.length c0_1) := (za BK182.out 1).trans rfl; have hfz26_0 := zb BK182.out 0; have hfz26_1 := zb BK182.out 1) | ((with_reducible refine ze (f := 12) rfl ?_); refine zv (some 14) rfl rfl Tryz.func12 (by kernel_rfl) rfl #[.int .i64 a0_0, .slice A0_1 l0_1.length c0_1] rfl sqM ?_; (with_reducible refine (zS.calls k a0_0 _ _ l0_1 false _ ?side1 ?side2 A3.out).mono ?_); (case side1 => exact Kd.zt HR0_1.out sqB); (case side2 => exact HC0_1.out); rintro e w' ⟨rfl, ⟨nd, rfl⟩⟩; refine ⟨_, rfl, ?_⟩))
  go_ret
  exact ⟨sqE, sqB⟩

def qY.f (k : Nat) (a0_0 : Int) (l0_1 : List Int) : Option (List Int) := (qD.f k a0_0 l0_1).bind fun t207 => (if t207 = true then ((qp.f k a0_0 l0_1).bind fun t208 => (some t208)) else (some (([] : List Int))))
theorem qY.calls (k : Nat) (a0_0 : Int) (A0_1 : Option Addr) (c0_1 : Nat) (l0_1 : List Int) (r : List Int) (w : World) (hr0_1 : Kd.C (Kd.int .i64) w A0_1 l0_1.length l0_1) (hc0_1 : l0_1.length ≤ c0_1) (h : qY.f k a0_0 l0_1 = some r) :
  Calls Tryz.prog 18 #[.agg #[.int .i64 a0_0, .slice A0_1 l0_1.length c0_1]] w fun e w' => ∃ v0_ : Value, e = .returned (v0_) ∧ Kd.R (Kd.int .i64) 3 w' w.heap.size (fun _ => True) v0_ r ∧ Below w.heap.size w w' := by
 have hu24 := Tryz.underlying24
 have HR0_1 := Aside0.mk hr0_1
 have HC0_1 := Aside0.mk hc0_1
 clear hr0_1 hc0_1
 have HB := Aside0.mk (Below.refl w.heap.size w)
 have H : ((qD.f k a0_0 l0_1).bind fun t207 => (if t207 = true then ((qp.f k a0_0 l0_1).bind fun t208 => (some t208)) else (some (([] : List Int))))) = some r := h
 clear h
 replace H := Option.bind_eq_some_iff.mp H
 obtain ⟨t207, A20, H⟩ := H
 replace H : (if t207 = true then ((qp.f k a0_0 l0_1).bind fun t208 => (some t208)) else (some (([] : List Int)))) = some r := H
 have A2 := Aside0.mk A20
 clear A20
 by_cases c3 : t207 = true
 ·subst c3
  have H1 : ((qp.f k a0_0 l0_1).bind fun t208 => (some t208)) = some r := by rw [if_pos rfl] at H; exact H
  clear H
  have H := H1
  clear H1
  replace H := Option.bind_eq_some_iff.mp H
  obtain ⟨t208, A40, H⟩ := H
  replace H : (some t208) = some r := H
  have A4 := Aside0.mk A40
  clear A40
  obtain rfl := Option.some.inj H
  go_enter Tryz.func18, Tryz.ntmps18
  go_wp2_with (first | ((with_reducible refine zm (N := 1) rfl ?_); refine zq ?hg (N := 1) ?hd (cs := #[.int .i64 a0_0, .slice A0_1 l0_1.length c0_1]) (t := 24) ?hr ?_; (case hd => rfl); (case hg => rfl); (case hr => exact sqG); intro gb206 hg w5 hbox hb; have n0_ := Aside0.mk (zc sqB hb); have n1_ := Aside0.mk (hbox); have n2_ := Aside0.mk ((sqS hg : w.heap.size ≤ gb206)); have n3_ := Aside0.mk ((sqS hg : w.heap.size ≤ gb206)); clear HB; have HB := n0_; have BK206 := n1_; have GW206 := n2_; have GE206 := n3_; clear n0_ n1_ n2_ n3_; clear hb hbox hg; have hcz6_0 : w5.cell? ⟨gb206, 0, none⟩ = some (.int .i64 a0_0) := (za BK206.out 0).trans rfl; have hcz6_1 : w5.cell? ⟨gb206, 1, none⟩ = some (.slice A0_1 l0_1.length c0_1) := (za BK206.out 1).trans rfl; have hfz6_0 := zb BK206.out 0; have hfz6_1 := zb BK206.out 1) | ((with_reducible refine ze (f := 30) rfl ?_); refine zv (some 4) rfl rfl Tryz.func30 (by kernel_rfl) rfl #[.agg #[.int .i64 a0_0, .slice A0_1 l0_1.length c0_1]] rfl sqM ?_; (with_reducible refine (qD.calls k a0_0 _ _ l0_1 true _ ?side1 ?side2 A2.out).mono ?_); (case side1 => exact sqC (Kd.zt HR0_1.out HB.out)); (case side2 => exact HC0_1.out); rintro e w7 ⟨rfl, hb⟩; refine ⟨_, rfl, ?_⟩; have n0_ := Aside0.mk (zd (g := gb206) (o := .cells #[.int .i64 a0_0, .slice A0_1 l0_1.length c0_1] 24 (0, 0)) (sqK BK206.out) hb); have n1_ := Aside0.mk (zc sqB hb); clear BK206; clear HB; have BK206 := n0_; have HB := n1_; clear n0_ n1_; (try clear hb); (try clear hb2); (try clear hk); (try clear hi); have hcz8_0 : w7.cell? ⟨gb206, 0, none⟩ = some (.int .i64 a0_0) := (za BK206.out 0).trans rfl; have hcz8_1 : w7.cell? ⟨gb206, 1, none⟩ = some (.slice A0_1 l0_1.length c0_1) := (za BK206.out 1).trans rfl; have hfz8_0 := zb BK206.out 0; have hfz8_1 := zb BK206.out 1) | ((with_reducible refine ze (f := 34) rfl ?_); refine zv (some 8) rfl rfl Tryz.func34 (by kernel_rfl) rfl #[.agg #[.int .i64 a0_0, .slice A0_1 l0_1.length c0_1]] rfl sqM ?_; (with_reducible refine (qp.calls k a0_0 _ _ l0_1 t208 _ ?side1 ?side2 A4.out).mono ?_); (case side1 => exact sqC (Kd.zt HR0_1.out HB.out)); (case side2 => exact HC0_1.out); rintro e w9 ⟨v209, rfl, ho0, hb⟩; refine ⟨_, rfl, ?_⟩; have n0_ := Aside0.mk (Kd.zD ho0 (zh sqB)); have n1_ := Aside0.mk (zd (g := gb206) (o := .cells #[.int .i64 a0_0, .slice A0_1 l0_1.length c0_1] 24 (0, 0)) (sqK BK206.out) hb); have n2_ := Aside0.mk (zc sqB hb); clear BK206; clear HB; have HO210 := n0_; have BK206 := n1_; have HB := n2_; clear n0_ n1_ n2_; (try clear hb); (try clear hb2); (try clear hk); (try clear hi); (try clear ho0)))
  go_ret
  exact ⟨_, sqE, sqR HO210.out, sqB⟩
 ·replace c3 := Bool.eq_false_iff.mpr c3
  subst c3
  have H1 : (some (([] : List Int))) = some r := by rw [if_neg (show ¬ (false = true) by decide)] at H; exact H
  clear H
  have H := H1
  clear H1
  obtain ⟨y211, hy211⟩ : ∃ y_ : List Int, y_ = (([] : List Int)) := ⟨_, rfl⟩
  replace H : (some y211) = some r := by first | (rw [hy211]; with_reducible exact H) | (have H2_ := (Option.bind_some _ _).symm.trans H; rw [hy211]; with_reducible exact H2_) | (have H2_ := (Option.bind_some _ _).symm.trans H; with_reducible exact H2_) | with_reducible exact H | (rw [hy211]; exact H) | exact H
  have Ny211 := Aside0.mk hy211
  clear hy211
  obtain rfl := Option.some.inj H
  go_enter Tryz.func18, Tryz.ntmps18
  go_wp2_with (first | ((with_reducible refine zm (N := 1) rfl ?_); refine zq ?hg (N := 1) ?hd (cs := #[.int .i64 a0_0, .slice A0_1 l0_1.length c0_1]) (t := 24) ?hr ?_; (case hd => rfl); (case hg => rfl); (case hr => exact sqG); intro gb206 hg w10 hbox hb; have n0_ := Aside0.mk (zc sqB hb); have n1_ := Aside0.mk (hbox); have n2_ := Aside0.mk ((sqS hg : w.heap.size ≤ gb206)); have n3_ := Aside0.mk ((sqS hg : w.heap.size ≤ gb206)); clear HB; have HB := n0_; have BK206 := n1_; have GW206 := n2_; have GE206 := n3_; clear n0_ n1_ n2_ n3_; clear hb hbox hg; have hcz11_0 : w10.cell? ⟨gb206, 0, none⟩ = some (.int .i64 a0_0) := (za BK206.out 0).trans rfl; have hcz11_1 : w10.cell? ⟨gb206, 1, none⟩ = some (.slice A0_1 l0_1.length c0_1) := (za BK206.out 1).trans rfl; have hfz11_0 := zb BK206.out 0; have hfz11_1 := zb BK206.out 1) | ((with_reducible refine ze (f := 30) rfl ?_); refine zv (some 4) rfl rfl Tryz.func30 (by kernel_rfl) rfl #[.agg #[.int .i64 a0_0, .slice A0_1 l0_1.length c0_1]] rfl sqM ?_; (with_reducible refine (qD.calls k a0_0 _ _ l0_1 false _ ?side1 ?side2 A2.out).mono ?_); (case side1 => exact sqC (Kd.zt HR0_1.out HB.out)); (case side2 => exact HC0_1.out); rintro e w12 ⟨rfl, hb⟩; refine ⟨_, rfl, ?_⟩; have n0_ := Aside0.mk (zd (g := gb206) (o := .cells #[.int .i64 a0_0, .slice A0_1 l0_1.length c0_1] 24 (0, 0)) (sqK BK206.out) hb); have n1_ := Aside0.mk (zc sqB hb); clear BK206; clear HB; have BK206 := n0_; have HB := n1_; clear n0_ n1_; (try clear hb); (try clear hb2); (try clear hk); (try clear hi)) | ((with_reducible refine zm (N := 6) rfl ?_); refine Kd.jy (Kd.int .i64) _ 3 ?hg (N := 6) ?hd (xs := ([] : List Int)) (inner := []) (ok := fun _ => True) (okp := fun _ => True) ?hr ?hp (fun _ hk => hk) trivial (Below.refl _ _) (Nat.le_refl _) (by simp) ?_; (case hd => rfl); (case hg => rfl); (case hr => exact sqG); (case hp => exact (qK.none _ _)); intro v212 w13 ho14 hb hg_ hnew_; clear hg_ hnew_; (first | rw [← Ny211.out] at ho14 | (simp only [Int.reduceToNat] at ho14; rw [← Ny211.out] at ho14)); have n0_ := Aside0.mk (Kd.zD ho14 (zh sqB)); have n1_ := Aside0.mk (zd (g := gb206) (o := .cells #[.int .i64 a0_0, .slice A0_1 l0_1.length c0_1] 24 (0, 0)) (sqK BK206.out) hb); have n2_ := Aside0.mk (zc sqB hb); clear BK206; clear HB; have HO213 := n0_; have BK206 := n1_; have HB := n2_; clear n0_ n1_ n2_; clear hb ho14))
  go_ret
  exact ⟨_, sqE, sqR HO213.out, sqB⟩

def zG.l0 : Nat → Int → List Int → List Int → Int → Int → List Int → Option (List Int)
 | 0, _, _, _, _, _, _ => none
 | k + 1, x1, x5, x6, x7, x215000, x215001 => if x7 < (x6.length : Int) then (if 0 ≤ x7 then ((qv.f k x215000 x215001 (rd x6 x7)).bind fun t222 => (if t222 = x1 then (if x5.length < 17592186044416 then (zG.l0 k x1 (x5 ++ [rd x6 x7]) x6 (wrap64 (x7 + 1)) x215000 x215001) else (none)) else (zG.l0 k x1 x5 x6 (wrap64 (x7 + 1)) x215000 x215001))) else (none)) else (some x5)
def zG.f (k : Nat) (a0_0 : Int) (l0_1 : List Int) (a1 : Int) : Option (List Int) := (qY.f k a0_0 l0_1).bind fun t218 => (zG.l0 k a1 (([] : List Int)) t218 0 a0_0 l0_1)
def zG.T6 : Bool × List (List Nat × List Nat) := (true, [([], []), ([], []), ([], []), ([1, 2], [1, 2]), ([3], [3]), ([0, 4], [0, 4]), ([], []), ([5, 6], [5, 6])])
def zG.B6 : List Nat := [0, 0, 0, 6, 14, 31, 0, 127]
theorem zG.JH : vO .any (opsOf Tryz.f49 6) = zG.T6 := by kernel_rfl
theorem zG.Zz : vt zG.T6.2 zG.B6 = true := by kernel_rfl
theorem zG.calls (k : Nat) (a0_0 : Int) (A0_1 : Option Addr) (c0_1 : Nat) (l0_1 : List Int) (a1 : Int) (r : List Int) (w : World) (hr0_1 : Kd.C (Kd.int .i64) w A0_1 l0_1.length l0_1) (hc0_1 : l0_1.length ≤ c0_1) (h : zG.f k a0_0 l0_1 a1 = some r) :
  Calls Tryz.prog 49 #[.agg #[.int .i64 a0_0, .slice A0_1 l0_1.length c0_1], .int .i64 a1] w fun e w' => ∃ v0_ : Value, e = .returned (v0_) ∧ Kd.R (Kd.int .i64) 3 w' w.heap.size (fun _ => True) v0_ r ∧ Below w.heap.size w w' := by
 have hu24 := Tryz.underlying24
 have HR0_1 := Aside0.mk hr0_1
 have HC0_1 := Aside0.mk hc0_1
 clear hr0_1 hc0_1
 have HB := Aside0.mk (Below.refl w.heap.size w)
 have H : ((qY.f k a0_0 l0_1).bind fun t218 => (zG.l0 k a1 (([] : List Int)) t218 0 a0_0 l0_1)) = some r := h
 clear h
 obtain ⟨y215, hy215⟩ : ∃ y_ : List Int, y_ = (([] : List Int)) := ⟨_, rfl⟩
 replace H : ((qY.f k a0_0 l0_1).bind fun t218 => (zG.l0 k a1 y215 t218 0 a0_0 l0_1)) = some r := by first | (rw [hy215]; with_reducible exact H) | (have H2_ := (Option.bind_some _ _).symm.trans H; rw [hy215]; with_reducible exact H2_) | (have H2_ := (Option.bind_some _ _).symm.trans H; with_reducible exact H2_) | with_reducible exact H | (rw [hy215]; exact H) | exact H
 have Ny215 := Aside0.mk hy215
 clear hy215
 replace H := Option.bind_eq_some_iff.mp H
 obtain ⟨t218, A30, H⟩ := H
 replace H : (zG.l0 k a1 y215 t218 0 a0_0 l0_1) = some r := H
 have A3 := Aside0.mk A30
 clear A30
 have H' := Aside0.mk H
 clear H
 go_enter Tryz.func49, Tryz.ntmps49
 go_wp2_with (first | ((with_reducible refine zm (N := 2) rfl ?_); refine zq ?hg (N := 2) ?hd (cs := #[.int .i64 a0_0, .slice A0_1 l0_1.length c0_1]) (t := 24) ?hr ?_; (case hd => rfl); (case hg => rfl); (case hr => exact sqG); intro gb214 hg w4 hbox hb; have n0_ := Aside0.mk (zc sqB hb); have n1_ := Aside0.mk (hbox); have n2_ := Aside0.mk ((sqS hg : w.heap.size ≤ gb214)); have n3_ := Aside0.mk ((sqS hg : w.heap.size ≤ gb214)); clear HB; have HB := n0_; have BK214 := n1_; have GW214 := n2_; have GE214 := n3_; clear n0_ n1_ n2_ n3_; clear hb hbox hg) | ((with_reducible refine zm (N := 8) rfl ?_); refine Kd.jy (Kd.int .i64) _ 3 ?hg (N := 8) ?hd (xs := ([] : List Int)) (inner := []) (ok := fun _ => True) (okp := fun _ => True) ?hr ?hp (fun _ hk => hk) trivial (Below.refl _ _) (Nat.le_refl _) (by simp) ?_; (case hd => rfl); (case hg => rfl); (case hr => exact sqG); (case hp => exact (qK.none _ _)); intro v216 w5 ho6 hb hg_ hnew_; clear hg_ hnew_; (first | rw [← Ny215.out] at ho6 | (simp only [Int.reduceToNat] at ho6; rw [← Ny215.out] at ho6)); have n0_ := Aside0.mk (Kd.zD ho6 (zh sqB)); have n1_ := Aside0.mk (zd (g := gb214) (o := .cells #[.int .i64 a0_0, .slice A0_1 l0_1.length c0_1] 24 (0, 0)) (sqK BK214.out) hb); have n2_ := Aside0.mk (zc sqB hb); clear BK214; clear HB; have HO217 := n0_; have BK214 := n1_; have HB := n2_; clear n0_ n1_ n2_; clear hb ho6; have hcz7_0 : w5.cell? ⟨gb214, 0, none⟩ = some (.int .i64 a0_0) := (za BK214.out 0).trans rfl; have hcz7_1 : w5.cell? ⟨gb214, 1, none⟩ = some (.slice A0_1 l0_1.length c0_1) := (za BK214.out 1).trans rfl; have hfz7_0 := zb BK214.out 0; have hfz7_1 := zb BK214.out 1) | ((with_reducible refine ze (f := 18) rfl ?_); refine zv (some 10) rfl rfl Tryz.func18 (by kernel_rfl) rfl #[.agg #[.int .i64 a0_0, .slice A0_1 l0_1.length c0_1]] rfl sqM ?_; (with_reducible refine (qY.calls k a0_0 _ _ l0_1 t218 _ ?side1 ?side2 A3.out).mono ?_); (case side1 => exact sqC (Kd.zt HR0_1.out HB.out)); (case side2 => exact HC0_1.out); rintro e w8 ⟨v219, rfl, ho0, hb⟩; refine ⟨_, rfl, ?_⟩; have n0_ := Aside0.mk (Kd.zw (sqR HO217.out) (Kd.zQ ho0) hb); have n1_ := Aside0.mk (Kd.zD (Kd.zP ho0 (Kd.qt (sqR HO217.out))) (zh sqB)); have n2_ := Aside0.mk (zd (g := gb214) (o := .cells #[.int .i64 a0_0, .slice A0_1 l0_1.length c0_1] 24 (0, 0)) (sqK BK214.out) hb); have n3_ := Aside0.mk (zc sqB hb); clear HO217; clear BK214; clear HB; have HO217 := n0_; have HO220 := n1_; have BK214 := n2_; have HB := n3_; clear n0_ n1_ n2_ n3_; (try clear hb); (try clear hb2); (try clear hk); (try clear hi); (try clear ho0)))
 go_loopg [5, 7] k (fun kq v5 v7 w' => ∃ (x5_1 : List Int) (x7_1 : Int), v7 = .int .i64 x7_1 ∧ Aside0 (zG.l0 kq a1 x5_1 t218 x7_1 a0_0 l0_1 = some r) ∧ Aside0 (kq ≤ k) ∧ Aside0 (Kd.R (Kd.int .i64) 3 w' w.heap.size (fun k_ => some k_ ≠ (v219 : Value).ownBlock) v5 x5_1) ∧ Aside0 (Kd.R (Kd.int .i64) 3 w' w.heap.size (fun k_ => some k_ ≠ (v5 : Value).ownBlock) v219 t218) ∧ Aside0 (w'.heap[gb214]? = some (.cells #[.int .i64 a0_0, (.slice A0_1 l0_1.length c0_1)] 24 (0, 0))) ∧ Aside0 (Below w.heap.size w w'))
 case atStart => exact ⟨(y215), (0), (sqD), H', ⟨Nat.le_refl _⟩, ⟨by refine sqR ?_; exact Kd.zn HO217.out (fun _ hk => hk.2)⟩, ⟨by refine sqR ?_; exact Kd.zn HO220.out (fun _ hk => hk.2)⟩, ⟨sqK BK214.out⟩, ⟨sqB⟩⟩
 case round =>
  clear H'
  try clear c1
  try clear p2
  try clear c4
  try clear hcz7_0
  try clear hcz7_1
  try clear hfz7_0
  try clear hfz7_1
  obtain ⟨x5_1, x7_1, rfl, HA, HK1, HO_5, HO_6, BK214, HB⟩ := hrel
  cases gk with
  | zero => exact absurd HA.out (by simp [zG.l0])
  | succ k1 =>
   have H := HA.out
   clear HA
   simp only [zG.l0] at H
   by_cases c9 : x7_1 < (t218.length : Int)
   ·rw [if_pos c9] at H
    have c9b0 : decide (x7_1 < (t218.length : Int)) = true := decide_eq_true c9
    clear c9
    by_cases c10 : 0 ≤ x7_1
    ·rw [if_pos c10] at H
     have c10b0 : decide (0 ≤ x7_1) = true := decide_eq_true c10
     clear c10
     replace H := Option.bind_eq_some_iff.mp H
     obtain ⟨t222, A110, H⟩ := H
     replace H : (if t222 = a1 then (if x5_1.length < 17592186044416 then (zG.l0 k1 a1 (x5_1 ++ [rd t218 x7_1]) t218 (wrap64 (x7_1 + 1)) a0_0 l0_1) else (none)) else (zG.l0 k1 a1 x5_1 t218 (wrap64 (x7_1 + 1)) a0_0 l0_1)) = some r := H
     have A11 := Aside0.mk A110
     clear A110
     by_cases c12 : t222 = a1
     ·rw [if_pos c12] at H
      have c12b0 : (t222 == a1) = true := beq_iff_eq.mpr c12
      have c12b1 : (t222 != a1) = false := bne_eq_false_iff_eq.mpr c12
      clear c12
      by_cases c13 : x5_1.length < 17592186044416
      ·rw [if_pos c13] at H
       have LMc13 := Aside0.mk c13
       clear c13
       obtain ⟨y224, hy224⟩ : ∃ y_ : List Int, y_ = (x5_1 ++ [rd t218 x7_1]) := ⟨_, rfl⟩
       replace H : (zG.l0 k1 a1 y224 t218 (wrap64 (x7_1 + 1)) a0_0 l0_1) = some r := by first | (rw [hy224]; with_reducible exact H) | (have H2_ := (Option.bind_some _ _).symm.trans H; rw [hy224]; with_reducible exact H2_) | (have H2_ := (Option.bind_some _ _).symm.trans H; with_reducible exact H2_) | with_reducible exact H | (rw [hy224]; exact H) | exact H
       have Ny224 := Aside0.mk hy224
       clear hy224
       have H' := Aside0.mk H
       clear H
       obtain ⟨Ao14, co14, eo14⟩ := Kd.zK HO_6.out
       subst eo14
       try go_wp2
       have n0_ := Aside0.mk (Kd.jL HO_5.out)
       have n1_ := Aside0.mk (Kd.jL HO_6.out)
       have n2_ := Aside0.mk (jj BK214.out)
       have n3_ := Aside0.mk (qg HB.out)
       clear HO_5
       clear HO_6
       clear BK214
       clear HB
       have HO_5 := n0_
       have HO_6 := n1_
       have BK214 := n2_
       have HB := n3_
       clear n0_ n1_ n2_ n3_
       have p221 : 0 ≤ (x7_1 : Int) := of_decide_eq_true sqA
       have q221 : x7_1 < (t218.length : Int) := of_decide_eq_true sqA
       obtain ⟨ad221, e221, hx221_0⟩ := Kd.zT (Kd.zg HO_6.out).2.2 x7_1 p221 q221
       cases e221
       replace p221 := eq_true p221
       replace q221 := eq_true q221
       refine jW (n := 8) (S := fun w' => w'.cell? ⟨gb214, 0, none⟩ = some (.int .i64 a0_0) ∧ w'.cell? ⟨gb214, 1, none⟩ = some (.slice A0_1 l0_1.length c0_1) ∧ w'.cell? (ad221.add (x7_1).toNat) = some (.int .i64 (rd t218 x7_1))) (ds := []) #[false, false, false, false, false, false, false, false] (by kernel_rfl) rfl rfl ⟨(za BK214.out 0).trans rfl, (za BK214.out 1).trans rfl, hx221_0⟩ (fun hHeld => ?_); refine ja zG.JH zG.Zz (fun HT_ HW_ => ?_)
       generalize wr.drew = w15 at HO_5 HO_6 BK214 HB hx221_0 hHeld ⊢
       refine zO (i := 1) (N := some 18) (v := ?_) (a' := ?_) #[false, true, false, false, false, false, false, false] rfl rfl (zC HT_.out (by kernel_rfl)) (fun _ _ _ h => h) (Or.inl ⟨by rfl, ?_⟩) ?_ ?_
       rotate_left
       ·intro w'
        go_simp
        with_reducible rfl
       rotate_left
       ·simp only [Act.put, List.setIfInBounds_toArray, List.set_cons_zero, List.set_cons_succ, zi, zj]
        rfl
       refine zO (i := 2) (N := some 19) (v := ?_) (a' := ?_) #[false, true, true, false, false, false, false, false] rfl rfl (zC HT_.out (by kernel_rfl)) (fun _ _ _ h => h) (Or.inl ⟨by rfl, ?_⟩) ?_ ?_
       rotate_left
       ·intro w'
        go_simp
        with_reducible rfl
       rotate_left
       ·simp only [Act.put, List.setIfInBounds_toArray, List.set_cons_zero, List.set_cons_succ, zi, zj]
        rfl
       refine zO (i := 3) (N := some 20) (v := ?_) (a' := ?_) #[false, true, true, true, false, false, false, false] rfl rfl (zC HT_.out (by kernel_rfl)) (fun _ _ _ h => h) (Or.inl ⟨by rfl, ?_⟩) ?_ ?_
       rotate_left
       ·intro w'
        go_simp
        with_reducible rfl
       rotate_left
       ·simp only [Act.put, List.setIfInBounds_toArray, List.set_cons_zero, List.set_cons_succ, zi, zj]
        rfl
       refine zO (i := 6) (N := some 23) (v := ?_) (a' := ?_) #[false, true, true, true, false, false, true, false] rfl rfl (zC HT_.out (by kernel_rfl)) (fun _ _ _ h => h) (Or.inl ⟨by rfl, ?_⟩) ?_ ?_
       rotate_left
       ·intro w'
        go_simp
        with_reducible rfl
       rotate_left
       ·simp only [Act.put, List.setIfInBounds_toArray, List.set_cons_zero, List.set_cons_succ, zi, zj]
        rfl
       refine jD (i := 0) (N := some 17) (v := ?_) (a' := ?_) #[true, true, true, true, false, false, true, false] rfl rfl (qT HT_.out HW_.out (by kernel_rfl)) (fun _ _ _ h => h) (Or.inl ⟨by rfl, ?_⟩) hHeld ?_ ?_
       rotate_left
       ·rintro w' ⟨s0, s1, s2⟩
        go_simp
        with_reducible rfl
       rotate_left
       ·simp only [Act.put, List.setIfInBounds_toArray, List.set_cons_zero, List.set_cons_succ, zi, zj]
        rfl
       refine jD (i := 4) (N := some 21) (v := ?_) (a' := ?_) #[true, true, true, true, true, false, true, false] rfl rfl (qT HT_.out HW_.out (by kernel_rfl)) (fun _ _ _ h => h) (Or.inl ⟨by rfl, ?_⟩) hHeld ?_ ?_
       rotate_left
       ·rintro w' ⟨s0, s1, s2⟩
        go_simp
        with_reducible rfl
       rotate_left
       ·simp only [Act.put, List.setIfInBounds_toArray, List.set_cons_zero, List.set_cons_succ, zi, zj]
        rfl
       refine yT (i := 5) (N := some 22) #[true, true, true, true, true, true, true, false] rfl rfl (j7 HT_.out (by kernel_rfl)) (by decide) (fun K hK => ?_)
       refine yE Tryz.func69 (by kernel_rfl) rfl #[.agg #[.int .i64 a0_0, .slice A0_1 l0_1.length c0_1], .int .i64 (rd t218 x7_1)] (by rfl) rfl rfl sqM ?_
       with_reducible refine (qv.calls k1 a0_0 _ _ l0_1 (rd t218 x7_1) t222 _ ?side1 ?side2 A11.out).mono ?_
       (case side1 => exact sqC (Kd.zt HR0_1.out HB.out))
       (case side2 => exact HC0_1.out)
       rintro e w16 ⟨rfl, hb⟩
       have HS2_ := (hb.cell (World.block_lt_of_cell? _ _ (hHeld.2.2))).trans (hHeld.2.2)
       refine ⟨_, rfl, ?_⟩
       have n0_ := Aside0.mk (Kd.zx (sqR HO_5.out) hb)
       have n1_ := Aside0.mk (Kd.zx (sqR HO_6.out) hb)
       have n2_ := Aside0.mk (zd (g := gb214) (o := .cells #[.int .i64 a0_0, .slice A0_1 l0_1.length c0_1] 24 (0, 0)) (sqK BK214.out) hb)
       have n3_ := Aside0.mk (zc sqB hb)
       clear HO_5
       clear HO_6
       clear BK214
       clear HB
       have HO_5 := n0_
       have HO_6 := n1_
       have BK214 := n2_
       have HB := n3_
       clear n0_ n1_ n2_ n3_
       (try clear hb)
       (try clear hb2)
       (try clear hk)
       (try clear hi)
       refine hK.out _ _ ⟨(za BK214.out 0).trans rfl, (za BK214.out 1).trans rfl, HS2_⟩ (fun hHeld => ?_)
       clear hK K
       refine vG (a' := ?_) ?_ ?_
       rotate_left
       ·show Act.put _ (some 22) _ = _
        simp only [Act.put, List.setIfInBounds_toArray, List.set_cons_zero, List.set_cons_succ, zi, zj]
        rfl
       refine zO (i := 7) (N := some 24) (v := ?_) (a' := ?_) #[true, true, true, true, true, true, true, true] rfl rfl (zC HT_.out (by kernel_rfl)) (fun _ _ _ h => h) (Or.inl ⟨by rfl, ?_⟩) ?_ ?_
       rotate_left
       ·intro w'
        go_simp
        with_reducible rfl
       rotate_left
       ·simp only [Act.put, List.setIfInBounds_toArray, List.set_cons_zero, List.set_cons_succ, zi, zj]
        rfl
       refine vF (jK HT_.out (by kernel_rfl)) ?_
       have p223 : 0 ≤ (x7_1 : Int) := of_decide_eq_true sqA
       have q223 : x7_1 < (t218.length : Int) := of_decide_eq_true sqA
       obtain ⟨ad223, e223, hx223_0⟩ := Kd.zT (Kd.zg HO_6.out).2.2 x7_1 p223 q223
       obtain rfl : ad221 = ad223 := (by injection e223)
       replace p223 := eq_true p223
       replace q223 := eq_true q223
       try go_wp2_with (first | ((with_reducible refine qB (b := .append) (xs := #[.tmp 25, .tmp 30]) rfl ?_); at_builtin; refine Kd.ji (Kd.int .i64) (w0 := w) w.heap.size rfl (.tmp 25) (.tmp 30) 22 3 (.int .i64 0) 8 rfl Tryz.underlying22 jH rfl (by decide) (by omega) u5 x5_1 (rd t218 x7_1) [.int .i64 (rd t218 x7_1)] (fun k_ => some k_ ≠ (.slice (some ad221) t218.length co14 : Value).ownBlock) (fun _ => False) rfl rfl ?aP (fun _ hk => hk.elim) ?aF ?aO ?aB ?aS ?aL ?_; (case aP => exact rfl); (case aB => exact sqB); (case aF => exact (fun k_ hk => Kd.yG (Kd.qt (sqR HO_6.out)) k_ hk)); (case aO => exact (sqR HO_5.out)); (case aS => exact (zh sqB)); (case aL => have := LMc13.out; omega); intro v225 w17 ho hb hg hat; rw [← Ny224.out] at ho; have n0_ := Aside0.mk (Kd.vm (ok := (fun _ => True)) (by refine sqR ?_; exact Kd.zn HO_6.out (fun _ hk => ⟨trivial, by first | exact hk | exact fun h_ => hk (h_.trans ((fun (A : Option Addr) (x y c : Nat) => (by cases A <;> rfl : (Value.slice A x c).ownBlock = (Value.slice A y c).ownBlock)) _ _ _ _))⟩)) hg hat); have n1_ := Aside0.mk (vz (g := gb214) (o := .cells #[.int .i64 a0_0, .slice A0_1 l0_1.length c0_1] 24 (0, 0)) (sqK BK214.out) hg (Kd.Qt HO_5.out BK214.out (by decide))); have n2_ := Aside0.mk (hb); have n3_ := Aside0.mk (ho); clear HO_6; clear BK214; clear HB; clear HO_5; have HO_6 := n0_; have BK214 := n1_; have HB := n2_; have HO226 := n3_; clear n0_ n1_ n2_ n3_; clear ho hb hg hat))
       go_roundg k1
       case measure => have := HK1.out; omega
       case rel => exact ⟨(y224), (wrap64 (x7_1 + 1)), (sqD), H', ⟨by have := HK1.out; omega⟩, ⟨sqR HO226.out⟩, ⟨by refine sqR ?_; exact Kd.zn HO_6.out (fun _ hk => hk.2)⟩, ⟨sqK BK214.out⟩, ⟨sqB⟩⟩
      ·rw [if_neg c13] at H
       exact absurd H (by simp)
     ·rw [if_neg c12] at H
      have c12b0 : (t222 == a1) = false := beq_eq_false_iff_ne.mpr c12
      have c12b1 : (t222 != a1) = true := bne_iff_ne.mpr c12
      have H' := Aside0.mk H
      clear H
      obtain ⟨Ao18, co18, eo18⟩ := Kd.zK HO_6.out
      subst eo18
      try go_wp2
      have n0_ := Aside0.mk (Kd.jL HO_5.out)
      have n1_ := Aside0.mk (Kd.jL HO_6.out)
      have n2_ := Aside0.mk (jj BK214.out)
      have n3_ := Aside0.mk (qg HB.out)
      clear HO_5
      clear HO_6
      clear BK214
      clear HB
      have HO_5 := n0_
      have HO_6 := n1_
      have BK214 := n2_
      have HB := n3_
      clear n0_ n1_ n2_ n3_
      have p221 : 0 ≤ (x7_1 : Int) := of_decide_eq_true sqA
      have q221 : x7_1 < (t218.length : Int) := of_decide_eq_true sqA
      obtain ⟨ad221, e221, hx221_0⟩ := Kd.zT (Kd.zg HO_6.out).2.2 x7_1 p221 q221
      cases e221
      replace p221 := eq_true p221
      replace q221 := eq_true q221
      refine jW (n := 8) (S := fun w' => w'.cell? ⟨gb214, 0, none⟩ = some (.int .i64 a0_0) ∧ w'.cell? ⟨gb214, 1, none⟩ = some (.slice A0_1 l0_1.length c0_1) ∧ w'.cell? (ad221.add (x7_1).toNat) = some (.int .i64 (rd t218 x7_1))) (ds := []) #[false, false, false, false, false, false, false, false] (by kernel_rfl) rfl rfl ⟨(za BK214.out 0).trans rfl, (za BK214.out 1).trans rfl, hx221_0⟩ (fun hHeld => ?_); refine ja zG.JH zG.Zz (fun HT_ HW_ => ?_)
      generalize wr.drew = w19 at HO_5 HO_6 BK214 HB hx221_0 hHeld ⊢
      refine zO (i := 1) (N := some 18) (v := ?_) (a' := ?_) #[false, true, false, false, false, false, false, false] rfl rfl (zC HT_.out (by kernel_rfl)) (fun _ _ _ h => h) (Or.inl ⟨by rfl, ?_⟩) ?_ ?_
      rotate_left
      ·intro w'
       go_simp
       with_reducible rfl
      rotate_left
      ·simp only [Act.put, List.setIfInBounds_toArray, List.set_cons_zero, List.set_cons_succ, zi, zj]
       rfl
      refine zO (i := 2) (N := some 19) (v := ?_) (a' := ?_) #[false, true, true, false, false, false, false, false] rfl rfl (zC HT_.out (by kernel_rfl)) (fun _ _ _ h => h) (Or.inl ⟨by rfl, ?_⟩) ?_ ?_
      rotate_left
      ·intro w'
       go_simp
       with_reducible rfl
      rotate_left
      ·simp only [Act.put, List.setIfInBounds_toArray, List.set_cons_zero, List.set_cons_succ, zi, zj]
       rfl
      refine zO (i := 3) (N := some 20) (v := ?_) (a' := ?_) #[false, true, true, true, false, false, false, false] rfl rfl (zC HT_.out (by kernel_rfl)) (fun _ _ _ h => h) (Or.inl ⟨by rfl, ?_⟩) ?_ ?_
      rotate_left
      ·intro w'
       go_simp
       with_reducible rfl
      rotate_left
      ·simp only [Act.put, List.setIfInBounds_toArray, List.set_cons_zero, List.set_cons_succ, zi, zj]
       rfl
      refine zO (i := 6) (N := some 23) (v := ?_) (a' := ?_) #[false, true, true, true, false, false, true, false] rfl rfl (zC HT_.out (by kernel_rfl)) (fun _ _ _ h => h) (Or.inl ⟨by rfl, ?_⟩) ?_ ?_
      rotate_left
      ·intro w'
       go_simp
       with_reducible rfl
      rotate_left
      ·simp only [Act.put, List.setIfInBounds_toArray, List.set_cons_zero, List.set_cons_succ, zi, zj]
       rfl
      refine jD (i := 0) (N := some 17) (v := ?_) (a' := ?_) #[true, true, true, true, false, false, true, false] rfl rfl (qT HT_.out HW_.out (by kernel_rfl)) (fun _ _ _ h => h) (Or.inl ⟨by rfl, ?_⟩) hHeld ?_ ?_
      rotate_left
      ·rintro w' ⟨s0, s1, s2⟩
       go_simp
       with_reducible rfl
      rotate_left
      ·simp only [Act.put, List.setIfInBounds_toArray, List.set_cons_zero, List.set_cons_succ, zi, zj]
       rfl
      refine jD (i := 4) (N := some 21) (v := ?_) (a' := ?_) #[true, true, true, true, true, false, true, false] rfl rfl (qT HT_.out HW_.out (by kernel_rfl)) (fun _ _ _ h => h) (Or.inl ⟨by rfl, ?_⟩) hHeld ?_ ?_
      rotate_left
      ·rintro w' ⟨s0, s1, s2⟩
       go_simp
       with_reducible rfl
      rotate_left
      ·simp only [Act.put, List.setIfInBounds_toArray, List.set_cons_zero, List.set_cons_succ, zi, zj]
       rfl
      refine yT (i := 5) (N := some 22) #[true, true, true, true, true, true, true, false] rfl rfl (j7 HT_.out (by kernel_rfl)) (by decide) (fun K hK => ?_)
      refine yE Tryz.func69 (by kernel_rfl) rfl #[.agg #[.int .i64 a0_0, .slice A0_1 l0_1.length c0_1], .int .i64 (rd t218 x7_1)] (by rfl) rfl rfl sqM ?_
      with_reducible refine (qv.calls k1 a0_0 _ _ l0_1 (rd t218 x7_1) t222 _ ?side1 ?side2 A11.out).mono ?_
      (case side1 => exact sqC (Kd.zt HR0_1.out HB.out))
      (case side2 => exact HC0_1.out)
      rintro e w20 ⟨rfl, hb⟩
      have HS2_ := (hb.cell (World.block_lt_of_cell? _ _ (hHeld.2.2))).trans (hHeld.2.2)
      refine ⟨_, rfl, ?_⟩
      have n0_ := Aside0.mk (Kd.zx (sqR HO_5.out) hb)
      have n1_ := Aside0.mk (Kd.zx (sqR HO_6.out) hb)
      have n2_ := Aside0.mk (zd (g := gb214) (o := .cells #[.int .i64 a0_0, .slice A0_1 l0_1.length c0_1] 24 (0, 0)) (sqK BK214.out) hb)
      have n3_ := Aside0.mk (zc sqB hb)
      clear HO_5
      clear HO_6
      clear BK214
      clear HB
      have HO_5 := n0_
      have HO_6 := n1_
      have BK214 := n2_
      have HB := n3_
      clear n0_ n1_ n2_ n3_
      (try clear hb)
      (try clear hb2)
      (try clear hk)
      (try clear hi)
      refine hK.out _ _ ⟨(za BK214.out 0).trans rfl, (za BK214.out 1).trans rfl, HS2_⟩ (fun hHeld => ?_)
      clear hK K
      refine vG (a' := ?_) ?_ ?_
      rotate_left
      ·show Act.put _ (some 22) _ = _
       simp only [Act.put, List.setIfInBounds_toArray, List.set_cons_zero, List.set_cons_succ, zi, zj]
       rfl
      refine zO (i := 7) (N := some 24) (v := ?_) (a' := ?_) #[true, true, true, true, true, true, true, true] rfl rfl (zC HT_.out (by kernel_rfl)) (fun _ _ _ h => h) (Or.inl ⟨by rfl, ?_⟩) ?_ ?_
      rotate_left
      ·intro w'
       go_simp
       with_reducible rfl
      rotate_left
      ·simp only [Act.put, List.setIfInBounds_toArray, List.set_cons_zero, List.set_cons_succ, zi, zj]
       rfl
      refine vF (jK HT_.out (by kernel_rfl)) ?_
      try go_wp2
      go_roundg k1
      case measure => have := HK1.out; omega
      case rel => exact ⟨(x5_1), (wrap64 (x7_1 + 1)), (sqD), H', ⟨by have := HK1.out; omega⟩, ⟨sqR HO_5.out⟩, ⟨sqR HO_6.out⟩, ⟨sqK BK214.out⟩, ⟨sqB⟩⟩
    ·rw [if_neg c10] at H
     exact absurd H (by simp)
   ·rw [if_neg c9] at H
    have c9b0 : decide (x7_1 < (t218.length : Int)) = false := decide_eq_false c9
    clear c9
    obtain rfl := Option.some.inj H
    obtain ⟨Ao21, co21, eo21⟩ := Kd.zK HO_6.out
    subst eo21
    go_wp2
    go_ret
    exact ⟨_, sqE, by refine sqR ?_; exact Kd.zn HO_5.out (fun _ hk => trivial), sqB⟩

def qi.f (k : Nat) (a0_0 : Int) (l0_1 : List Int) : Option (List Int) := (qD.f k a0_0 l0_1).bind fun t228 => (if t228 = true then (if 0 < (l0_1.length : Int) then ((qw.f k (rd l0_1 0)).bind fun t230 => ((zG.f k a0_0 l0_1 (wrap64 (t230 - 1))).bind fun t231 => (some t231))) else (none)) else (some (([] : List Int))))
def qi.T3 : Bool × List (List Nat × List Nat) := (true, [([], []), ([], []), ([1], [1]), ([2], [2]), ([3], [3]), ([4], [4]), ([5], [5]), ([0, 6, 5], [0, 6]), ([7, 7, 0, 1, 2, 3, 4, 5, 6, 7], [7])])
def qi.B3 : List Nat := [0, 0, 2, 6, 14, 30, 62, 127, 255]
theorem qi.zbh : vO .any (opsOf Tryz.f31 3) = qi.T3 := by kernel_rfl
theorem qi.zah : vt qi.T3.2 qi.B3 = true := by kernel_rfl
theorem qi.calls (k : Nat) (a0_0 : Int) (A0_1 : Option Addr) (c0_1 : Nat) (l0_1 : List Int) (r : List Int) (w : World) (hr0_1 : Kd.C (Kd.int .i64) w A0_1 l0_1.length l0_1) (hc0_1 : l0_1.length ≤ c0_1) (h : qi.f k a0_0 l0_1 = some r) :
  Calls Tryz.prog 31 #[.agg #[.int .i64 a0_0, .slice A0_1 l0_1.length c0_1]] w fun e w' => ∃ v0_ : Value, e = .returned (v0_) ∧ Kd.R (Kd.int .i64) 3 w' w.heap.size (fun _ => True) v0_ r ∧ Below w.heap.size w w' := by
 have hu24 := Tryz.underlying24
 have HR0_1 := Aside0.mk hr0_1
 have HC0_1 := Aside0.mk hc0_1
 clear hr0_1 hc0_1
 have HB := Aside0.mk (Below.refl w.heap.size w)
 have H : ((qD.f k a0_0 l0_1).bind fun t228 => (if t228 = true then (if 0 < (l0_1.length : Int) then ((qw.f k (rd l0_1 0)).bind fun t230 => ((zG.f k a0_0 l0_1 (wrap64 (t230 - 1))).bind fun t231 => (some t231))) else (none)) else (some (([] : List Int))))) = some r := h
 clear h
 replace H := Option.bind_eq_some_iff.mp H
 obtain ⟨t228, A20, H⟩ := H
 replace H : (if t228 = true then (if 0 < (l0_1.length : Int) then ((qw.f k (rd l0_1 0)).bind fun t230 => ((zG.f k a0_0 l0_1 (wrap64 (t230 - 1))).bind fun t231 => (some t231))) else (none)) else (some (([] : List Int)))) = some r := H
 have A2 := Aside0.mk A20
 clear A20
 by_cases c3 : t228 = true
 ·subst c3
  have H1 : (if 0 < (l0_1.length : Int) then ((qw.f k (rd l0_1 0)).bind fun t230 => ((zG.f k a0_0 l0_1 (wrap64 (t230 - 1))).bind fun t231 => (some t231))) else (none)) = some r := by rw [if_pos rfl] at H; exact H
  clear H
  have H := H1
  clear H1
  by_cases c4 : 0 < (l0_1.length : Int)
  ·rw [if_pos c4] at H
   have c4b0 : decide (0 < (l0_1.length : Int)) = true := decide_eq_true c4
   have c4b1 : decide (0 < l0_1.length) = true := decide_eq_true (by omega)
   clear c4
   replace H := Option.bind_eq_some_iff.mp H
   obtain ⟨t230, A50, H⟩ := H
   replace H : ((zG.f k a0_0 l0_1 (wrap64 (t230 - 1))).bind fun t231 => (some t231)) = some r := H
   have A5 := Aside0.mk A50
   clear A50
   replace H := Option.bind_eq_some_iff.mp H
   obtain ⟨t231, A60, H⟩ := H
   replace H : (some t231) = some r := H
   have A6 := Aside0.mk A60
   clear A60
   obtain rfl := Option.some.inj H
   go_enter Tryz.func31, Tryz.ntmps31
   try go_wp2_with (first | ((with_reducible refine zm (N := 1) rfl ?_); refine zq ?hg (N := 1) ?hd (cs := #[.int .i64 a0_0, .slice A0_1 l0_1.length c0_1]) (t := 24) ?hr ?_; (case hd => rfl); (case hg => rfl); (case hr => exact sqG); intro gb227 hg w7 hbox hb; have n0_ := Aside0.mk (zc sqB hb); have n1_ := Aside0.mk (hbox); have n2_ := Aside0.mk ((sqS hg : w.heap.size ≤ gb227)); have n3_ := Aside0.mk ((sqS hg : w.heap.size ≤ gb227)); clear HB; have HB := n0_; have BK227 := n1_; have GW227 := n2_; have GE227 := n3_; clear n0_ n1_ n2_ n3_; clear hb hbox hg; have hcz8_0 : w7.cell? ⟨gb227, 0, none⟩ = some (.int .i64 a0_0) := (za BK227.out 0).trans rfl; have hcz8_1 : w7.cell? ⟨gb227, 1, none⟩ = some (.slice A0_1 l0_1.length c0_1) := (za BK227.out 1).trans rfl; have hfz8_0 := zb BK227.out 0; have hfz8_1 := zb BK227.out 1) | ((with_reducible refine ze (f := 30) rfl ?_); refine zv (some 4) rfl rfl Tryz.func30 (by kernel_rfl) rfl #[.agg #[.int .i64 a0_0, .slice A0_1 l0_1.length c0_1]] rfl sqM ?_; (with_reducible refine (qD.calls k a0_0 _ _ l0_1 true _ ?side1 ?side2 A2.out).mono ?_); (case side1 => exact sqC (Kd.zt HR0_1.out HB.out)); (case side2 => exact HC0_1.out); rintro e w9 ⟨rfl, hb⟩; refine ⟨_, rfl, ?_⟩; have n0_ := Aside0.mk (zd (g := gb227) (o := .cells #[.int .i64 a0_0, .slice A0_1 l0_1.length c0_1] 24 (0, 0)) (sqK BK227.out) hb); have n1_ := Aside0.mk (zc sqB hb); clear BK227; clear HB; have BK227 := n0_; have HB := n1_; clear n0_ n1_; (try clear hb); (try clear hb2); (try clear hk); (try clear hi)))
   have n0_ := Aside0.mk (jj BK227.out)
   have n1_ := Aside0.mk (qg HB.out)
   clear BK227
   clear HB
   have BK227 := n0_
   have HB := n1_
   clear n0_ n1_
   have p229 : 0 ≤ (0 : Int) := (by omega)
   have q229 : 0 < (l0_1.length : Int) := of_decide_eq_true sqA
   obtain ⟨ad229, e229, hx229_0⟩ := Kd.zT HR0_1.out 0 p229 q229
   have hw229_0 := hx229_0
   (try rw [show ((0 : Int)).toNat = 0 from rfl] at hw229_0)
   (try rw [show 0 * 1 = 0 from rfl] at hw229_0)
   (try rw [Addr.add_zero'] at hw229_0)
   cases e229
   have qi229 : (0 < l0_1.length) = True := eq_true (by omega)
   (try rw [show ((0 : Int)).toNat = 0 from rfl] at hx229_0)
   (try rw [Addr.add_zero'] at hx229_0)
   replace hx229_0 := (HB.out.cell (World.block_lt_of_cell? w _ hx229_0)).trans hx229_0
   replace p229 := eq_true p229
   replace q229 := eq_true q229
   refine jW (n := 9) (S := fun w' => w'.cell? ⟨gb227, 0, none⟩ = some (.int .i64 a0_0) ∧ w'.cell? ⟨gb227, 1, none⟩ = some (.slice (some ad229) l0_1.length c0_1) ∧ w'.cell? ad229 = some (.int .i64 (rd l0_1 0))) (ds := []) #[false, false, false, false, false, false, false, false, false] (by kernel_rfl) rfl rfl ⟨(za BK227.out 0).trans rfl, (za BK227.out 1).trans rfl, ((HB.out.cell (World.block_lt_of_cell? w _ hw229_0)).trans hw229_0)⟩ (fun hHeld => ?_); refine ja qi.zbh qi.zah (fun HT_ HW_ => ?_)
   generalize w9.drew = w10 at BK227 HB hx229_0 hHeld ⊢
   refine zO (i := 1) (N := some 8) (v := ?_) (a' := ?_) #[false, true, false, false, false, false, false, false, false] rfl rfl (zC HT_.out (by kernel_rfl)) (fun _ _ _ h => h) (Or.inl ⟨by rfl, ?_⟩) ?_ ?_
   rotate_left
   ·intro w'
    go_simp
    with_reducible rfl
   rotate_left
   ·simp only [Act.put, List.setIfInBounds_toArray, List.set_cons_zero, List.set_cons_succ, zi, zj]
    rfl
   refine jD (i := 0) (N := some 7) (v := ?_) (a' := ?_) #[true, true, false, false, false, false, false, false, false] rfl rfl (qT HT_.out HW_.out (by kernel_rfl)) (fun _ _ _ h => h) (Or.inl ⟨by rfl, ?_⟩) hHeld ?_ ?_
   rotate_left
   ·rintro w' ⟨s0, s1, s2⟩
    go_simp
    with_reducible rfl
   rotate_left
   ·simp only [Act.put, List.setIfInBounds_toArray, List.set_cons_zero, List.set_cons_succ, zi, zj]
    rfl
   refine jD (i := 2) (N := some 9) (v := ?_) (a' := ?_) #[true, true, true, false, false, false, false, false, false] rfl rfl (qT HT_.out HW_.out (by kernel_rfl)) (fun _ _ _ h => h) (Or.inl ⟨by rfl, ?_⟩) hHeld ?_ ?_
   rotate_left
   ·rintro w' ⟨s0, s1, s2⟩
    go_simp
    with_reducible rfl
   rotate_left
   ·simp only [Act.put, List.setIfInBounds_toArray, List.set_cons_zero, List.set_cons_succ, zi, zj]
    rfl
   refine zO (i := 3) (N := some 10) (v := ?_) (a' := ?_) #[true, true, true, true, false, false, false, false, false] rfl rfl (zC HT_.out (by kernel_rfl)) (fun _ _ _ h => h) (Or.inl ⟨by rfl, ?_⟩) ?_ ?_
   rotate_left
   ·intro w'
    go_simp
    with_reducible rfl
   rotate_left
   ·simp only [Act.put, List.setIfInBounds_toArray, List.set_cons_zero, List.set_cons_succ, zi, zj]
    rfl
   refine jD (i := 4) (N := some 11) (v := ?_) (a' := ?_) #[true, true, true, true, true, false, false, false, false] rfl rfl (qT HT_.out HW_.out (by kernel_rfl)) (fun _ _ _ h => h) (Or.inl ⟨by rfl, ?_⟩) hHeld ?_ ?_
   rotate_left
   ·rintro w' ⟨s0, s1, s2⟩
    go_simp
    with_reducible rfl
   rotate_left
   ·simp only [Act.put, List.setIfInBounds_toArray, List.set_cons_zero, List.set_cons_succ, zi, zj]
    rfl
   refine yT (i := 5) (N := some 12) #[true, true, true, true, true, true, false, false, false] rfl rfl (j7 HT_.out (by kernel_rfl)) (by decide) (fun K hK => ?_)
   refine yE Tryz.func50 (by kernel_rfl) rfl #[.int .i64 (rd l0_1 0)] (by rfl) rfl rfl sqM ?_
   with_reducible refine (qw.calls k (rd l0_1 0) t230 _ A5.out).mono ?_
   rintro e w' ⟨rfl, ⟨nd, rfl⟩⟩
   refine ⟨_, rfl, ?_⟩
   refine hK.out _ _ ⟨(za BK227.out 0).trans rfl, (za BK227.out 1).trans rfl, ((HB.out.cell (World.block_lt_of_cell? w _ hw229_0)).trans hw229_0)⟩ (fun hHeld => ?_)
   clear hK K
   refine vG (a' := ?_) ?_ ?_
   rotate_left
   ·show Act.put _ (some 12) _ = _
    simp only [Act.put, List.setIfInBounds_toArray, List.set_cons_zero, List.set_cons_succ, zi, zj]
    rfl
   refine zO (i := 6) (N := some 13) (v := ?_) (a' := ?_) #[true, true, true, true, true, true, true, false, false] rfl rfl (zC HT_.out (by kernel_rfl)) (fun _ _ _ h => h) (Or.inl ⟨by rfl, ?_⟩) ?_ ?_
   rotate_left
   ·intro w'
    go_simp
    with_reducible rfl
   rotate_left
   ·simp only [Act.put, List.setIfInBounds_toArray, List.set_cons_zero, List.set_cons_succ, zi, zj]
    rfl
   refine yT (i := 7) (N := some 14) #[true, true, true, true, true, true, true, true, false] rfl rfl (j7 HT_.out (by kernel_rfl)) (by decide) (fun K hK => ?_)
   refine yE Tryz.func49 (by kernel_rfl) rfl #[.agg #[.int .i64 a0_0, .slice (some ad229) l0_1.length c0_1], .int .i64 (wrap64 (t230 - 1))] (by rfl) rfl rfl sqM ?_
   with_reducible refine (zG.calls k a0_0 _ _ l0_1 (wrap64 (t230 - 1)) t231 _ ?side1 ?side2 A6.out).mono ?_
   (case side1 => exact sqC (Kd.zt HR0_1.out sqB))
   (case side2 => exact HC0_1.out)
   rintro e w11 ⟨v232, rfl, ho0, hb⟩
   refine ⟨_, rfl, ?_⟩
   have n0_ := Aside0.mk (Kd.zD ho0 (zh sqB))
   have n1_ := Aside0.mk (zd (g := gb227) (o := .cells #[.int .i64 a0_0, .slice (some ad229) l0_1.length c0_1] 24 (0, 0)) (sqK BK227.out) hb)
   have n2_ := Aside0.mk (zc sqB hb)
   clear BK227
   clear HB
   have HO233 := n0_
   have BK227 := n1_
   have HB := n2_
   clear n0_ n1_ n2_
   (try clear hb)
   (try clear hb2)
   (try clear hk)
   (try clear hi)
   (try clear ho0)
   refine hK.out _ _ ⟨(za BK227.out 0).trans rfl, (za BK227.out 1).trans rfl, ((HB.out.cell (World.block_lt_of_cell? w _ hw229_0)).trans hw229_0)⟩ (fun hHeld => ?_)
   clear hK K
   refine vG (a' := ?_) ?_ ?_
   rotate_left
   ·show Act.put _ (some 14) _ = _
    simp only [Act.put, List.setIfInBounds_toArray, List.set_cons_zero, List.set_cons_succ, zi, zj]
    rfl
   refine zO (i := 8) (N := some 2) (v := ?_) (a' := ?_) #[true, true, true, true, true, true, true, true, true] rfl rfl (zC HT_.out (by kernel_rfl)) (fun _ _ _ h => h) (Or.inl ⟨by rfl, ?_⟩) ?_ ?_
   rotate_left
   ·intro w'
    go_simp
    with_reducible rfl
   rotate_left
   ·simp only [Act.put, List.setIfInBounds_toArray, List.set_cons_zero, List.set_cons_succ, zi, zj]
    rfl
   refine vF (jK HT_.out (by kernel_rfl)) ?_
   try go_wp2
   go_ret
   exact ⟨_, sqE, sqR HO233.out, sqB⟩
  ·rw [if_neg c4] at H
   exact absurd H (by simp)
 ·replace c3 := Bool.eq_false_iff.mpr c3
  subst c3
  have H1 : (some (([] : List Int))) = some r := by rw [if_neg (show ¬ (false = true) by decide)] at H; exact H
  clear H
  have H := H1
  clear H1
  obtain ⟨y234, hy234⟩ : ∃ y_ : List Int, y_ = (([] : List Int)) := ⟨_, rfl⟩
  replace H : (some y234) = some r := by first | (rw [hy234]; with_reducible exact H) | (have H2_ := (Option.bind_some _ _).symm.trans H; rw [hy234]; with_reducible exact H2_) | (have H2_ := (Option.bind_some _ _).symm.trans H; with_reducible exact H2_) | with_reducible exact H | (rw [hy234]; exact H) | exact H
  have Ny234 := Aside0.mk hy234
  clear hy234
  obtain rfl := Option.some.inj H
  go_enter Tryz.func31, Tryz.ntmps31
  go_wp2_with (first | ((with_reducible refine zm (N := 1) rfl ?_); refine zq ?hg (N := 1) ?hd (cs := #[.int .i64 a0_0, .slice A0_1 l0_1.length c0_1]) (t := 24) ?hr ?_; (case hd => rfl); (case hg => rfl); (case hr => exact sqG); intro gb227 hg w12 hbox hb; have n0_ := Aside0.mk (zc sqB hb); have n1_ := Aside0.mk (hbox); have n2_ := Aside0.mk ((sqS hg : w.heap.size ≤ gb227)); have n3_ := Aside0.mk ((sqS hg : w.heap.size ≤ gb227)); clear HB; have HB := n0_; have BK227 := n1_; have GW227 := n2_; have GE227 := n3_; clear n0_ n1_ n2_ n3_; clear hb hbox hg; have hcz13_0 : w12.cell? ⟨gb227, 0, none⟩ = some (.int .i64 a0_0) := (za BK227.out 0).trans rfl; have hcz13_1 : w12.cell? ⟨gb227, 1, none⟩ = some (.slice A0_1 l0_1.length c0_1) := (za BK227.out 1).trans rfl; have hfz13_0 := zb BK227.out 0; have hfz13_1 := zb BK227.out 1) | ((with_reducible refine ze (f := 30) rfl ?_); refine zv (some 4) rfl rfl Tryz.func30 (by kernel_rfl) rfl #[.agg #[.int .i64 a0_0, .slice A0_1 l0_1.length c0_1]] rfl sqM ?_; (with_reducible refine (qD.calls k a0_0 _ _ l0_1 false _ ?side1 ?side2 A2.out).mono ?_); (case side1 => exact sqC (Kd.zt HR0_1.out HB.out)); (case side2 => exact HC0_1.out); rintro e w14 ⟨rfl, hb⟩; refine ⟨_, rfl, ?_⟩; have n0_ := Aside0.mk (zd (g := gb227) (o := .cells #[.int .i64 a0_0, .slice A0_1 l0_1.length c0_1] 24 (0, 0)) (sqK BK227.out) hb); have n1_ := Aside0.mk (zc sqB hb); clear BK227; clear HB; have BK227 := n0_; have HB := n1_; clear n0_ n1_; (try clear hb); (try clear hb2); (try clear hk); (try clear hi)) | ((with_reducible refine zm (N := 6) rfl ?_); refine Kd.jy (Kd.int .i64) _ 3 ?hg (N := 6) ?hd (xs := ([] : List Int)) (inner := []) (ok := fun _ => True) (okp := fun _ => True) ?hr ?hp (fun _ hk => hk) trivial (Below.refl _ _) (Nat.le_refl _) (by simp) ?_; (case hd => rfl); (case hg => rfl); (case hr => exact sqG); (case hp => exact (qK.none _ _)); intro v235 w15 ho16 hb hg_ hnew_; clear hg_ hnew_; (first | rw [← Ny234.out] at ho16 | (simp only [Int.reduceToNat] at ho16; rw [← Ny234.out] at ho16)); have n0_ := Aside0.mk (Kd.zD ho16 (zh sqB)); have n1_ := Aside0.mk (zd (g := gb227) (o := .cells #[.int .i64 a0_0, .slice A0_1 l0_1.length c0_1] 24 (0, 0)) (sqK BK227.out) hb); have n2_ := Aside0.mk (zc sqB hb); clear BK227; clear HB; have HO236 := n0_; have BK227 := n1_; have HB := n2_; clear n0_ n1_ n2_; clear hb ho16))
  go_ret
  exact ⟨_, sqE, sqR HO236.out, sqB⟩

def zB.l0 : Nat → Int → List Int → List Int → Int → Option (Int × List Int × Bool)
 | 0, _, _, _, _ => none
 | k + 1, x0, x1, x6, x7 => (qj.f x0).bind fun t242 => (if x7 ≤ t242 then ((qP.f k x1 x7).bind fun t243 => (if t243 = true then (zB.l0 k x0 x1 x6 (wrap64 (x7 + 1))) else (if x6.length < 17592186044416 then (zB.l0 k x0 x1 (x6 ++ [x7]) (wrap64 (x7 + 1))) else (none)))) else ((zE.f k x6).bind fun t247 => ((qD.f k x0 t247).bind fun t251 => (if t251 = true then ((qi.f k x0 t247).bind fun t252 => ((qe.f k t252 x1).bind fun t255 => (if t255 = true then (some (x0, t247, true)) else (some (0, ([] : List Int), false))))) else (some (0, ([] : List Int), false))))))
def zB.f (k : Nat) (a0 : Int) (l1 : List Int) : Option (Int × List Int × Bool) := (zS.f k a0 l1).bind fun t238 => (if t238 = true then (zB.l0 k a0 l1 (([] : List Int)) 0) else (some (0, ([] : List Int), false)))
theorem zB.calls (k : Nat) (a0 : Int) (A1 : Option Addr) (c1 : Nat) (l1 : List Int) (r1 : Int) (r2 : List Int) (r3 : Bool) (w : World) (hr1 : Kd.C (Kd.int .i64) w A1 l1.length l1) (hc1 : l1.length ≤ c1) (h : zB.f k a0 l1 = some (r1, r2, r3)) :
  Calls Tryz.prog 15 #[.int .i64 a0, .slice A1 l1.length c1] w fun e w' => ∃ v1_ : Value, e = .returned (.tuple #[.agg #[.int .i64 r1, v1_], .bool r3]) ∧ Kd.R (Kd.int .i64) 3 w' w.heap.size (fun _ => True) v1_ r2 ∧ Below w.heap.size w w' := by
 have hu24 := Tryz.underlying24
 have HR1 := Aside0.mk hr1
 have HC1 := Aside0.mk hc1
 clear hr1 hc1
 have HB := Aside0.mk (Below.refl w.heap.size w)
 have H : ((zS.f k a0 l1).bind fun t238 => (if t238 = true then (zB.l0 k a0 l1 (([] : List Int)) 0) else (some (0, ([] : List Int), false)))) = some (r1, r2, r3) := h
 clear h
 replace H := Option.bind_eq_some_iff.mp H
 obtain ⟨t238, A30, H⟩ := H
 replace H : (if t238 = true then (zB.l0 k a0 l1 (([] : List Int)) 0) else (some (0, ([] : List Int), false))) = some (r1, r2, r3) := H
 have A3 := Aside0.mk A30
 clear A30
 by_cases c4 : t238 = true
 ·subst c4
  have H1 : (zB.l0 k a0 l1 (([] : List Int)) 0) = some (r1, r2, r3) := by rw [if_pos rfl] at H; exact H
  clear H
  have H := H1
  clear H1
  obtain ⟨y239, hy239⟩ : ∃ y_ : List Int, y_ = (([] : List Int)) := ⟨_, rfl⟩
  replace H : (zB.l0 k a0 l1 y239 0) = some (r1, r2, r3) := by first | (rw [hy239]; with_reducible exact H) | (have H2_ := (Option.bind_some _ _).symm.trans H; rw [hy239]; with_reducible exact H2_) | (have H2_ := (Option.bind_some _ _).symm.trans H; with_reducible exact H2_) | with_reducible exact H | (rw [hy239]; exact H) | exact H
  have Ny239 := Aside0.mk hy239
  clear hy239
  have H' := Aside0.mk H
  clear H
  go_enter Tryz.func15, Tryz.ntmps15
  go_wp2_with (first | ((with_reducible refine zm (N := 4) rfl ?_); refine zq ?hg (N := 4) ?hd (cs := #[.int .i64 0, .slice none 0 0]) (t := 24) ?hr ?_; (case hd => rfl); (case hg => rfl); (case hr => exact sqG); intro gb237 hg w5 hbox hb; have n0_ := Aside0.mk (zc sqB hb); have n1_ := Aside0.mk (hbox); have n2_ := Aside0.mk ((sqS hg : w.heap.size ≤ gb237)); have n3_ := Aside0.mk ((sqS hg : w.heap.size ≤ gb237)); clear HB; have HB := n0_; have BK237 := n1_; have GW237 := n2_; have GE237 := n3_; clear n0_ n1_ n2_ n3_; clear hb hbox hg) | ((with_reducible refine ze (f := 12) rfl ?_); refine zv (some 11) rfl rfl Tryz.func12 (by kernel_rfl) rfl #[.int .i64 a0, .slice A1 l1.length c1] rfl sqM ?_; (with_reducible refine (zS.calls k a0 _ _ l1 true _ ?side1 ?side2 A3.out).mono ?_); (case side1 => exact sqC (Kd.zt HR1.out HB.out)); (case side2 => exact HC1.out); rintro e w' ⟨rfl, ⟨nd, rfl⟩⟩; refine ⟨_, rfl, ?_⟩) | ((with_reducible refine zm (N := 14) rfl ?_); refine Kd.jy (Kd.int .i64) _ 3 ?hg (N := 14) ?hd (xs := ([] : List Int)) (inner := []) (ok := fun _ => True) (okp := fun _ => True) ?hr ?hp (fun _ hk => hk) trivial (Below.refl _ _) (Nat.le_refl _) (by simp) ?_; (case hd => rfl); (case hg => rfl); (case hr => exact sqG); (case hp => exact (qK.none _ _)); intro v240 w6 ho7 hb hg_ hnew_; clear hg_ hnew_; (first | rw [← Ny239.out] at ho7 | (simp only [Int.reduceToNat] at ho7; rw [← Ny239.out] at ho7)); have n0_ := Aside0.mk (Kd.zD ho7 (zh sqB)); have n1_ := Aside0.mk (zd (g := gb237) (o := .cells #[.int .i64 0, .slice none 0 0] 24 (0, 0)) (sqK BK237.out) hb); have n2_ := Aside0.mk (zc sqB hb); clear BK237; clear HB; have HO241 := n0_; have BK237 := n1_; have HB := n2_; clear n0_ n1_ n2_; clear hb ho7))
  go_loopg [6, 7] k (fun kq v6 v7 w' => ∃ (x6_1 : List Int) (x7_1 : Int), v7 = .int .i64 x7_1 ∧ Aside0 (zB.l0 kq a0 l1 x6_1 x7_1 = some (r1, r2, r3)) ∧ Aside0 (kq ≤ k) ∧ Aside0 (Kd.R (Kd.int .i64) 3 w' w.heap.size (fun _ => True) v6 x6_1) ∧ Aside0 (w'.heap[gb237]? = some (.cells #[.int .i64 0, (.slice none 0 0)] 24 (0, 0))) ∧ Aside0 (Below w.heap.size w w'))
  case atStart => exact ⟨(y239), (0), (sqD), H', ⟨Nat.le_refl _⟩, ⟨sqR HO241.out⟩, ⟨sqK BK237.out⟩, ⟨sqB⟩⟩
  case round =>
   clear H'
   try clear c1
   try clear p2
   try clear c4
   obtain ⟨x6_1, x7_1, rfl, HA, HK1, HO_6, BK237, HB⟩ := hrel
   cases gk with
   | zero => exact absurd HA.out (by simp [zB.l0])
   | succ k1 =>
    have H := HA.out
    clear HA
    simp only [zB.l0] at H
    replace H := Option.bind_eq_some_iff.mp H
    obtain ⟨t242, A80, H⟩ := H
    replace H : (if x7_1 ≤ t242 then ((qP.f k1 l1 x7_1).bind fun t243 => (if t243 = true then (zB.l0 k1 a0 l1 x6_1 (wrap64 (x7_1 + 1))) else (if x6_1.length < 17592186044416 then (zB.l0 k1 a0 l1 (x6_1 ++ [x7_1]) (wrap64 (x7_1 + 1))) else (none)))) else ((zE.f k1 x6_1).bind fun t247 => ((qD.f k1 a0 t247).bind fun t251 => (if t251 = true then ((qi.f k1 a0 t247).bind fun t252 => ((qe.f k1 t252 l1).bind fun t255 => (if t255 = true then (some (a0, t247, true)) else (some (0, ([] : List Int), false))))) else (some (0, ([] : List Int), false)))))) = some (r1, r2, r3) := H
    have A8 := Aside0.mk A80
    clear A80
    by_cases c9 : x7_1 ≤ t242
    ·rw [if_pos c9] at H
     have c9b0 : decide (x7_1 ≤ t242) = true := decide_eq_true c9
     clear c9
     replace H := Option.bind_eq_some_iff.mp H
     obtain ⟨t243, A100, H⟩ := H
     replace H : (if t243 = true then (zB.l0 k1 a0 l1 x6_1 (wrap64 (x7_1 + 1))) else (if x6_1.length < 17592186044416 then (zB.l0 k1 a0 l1 (x6_1 ++ [x7_1]) (wrap64 (x7_1 + 1))) else (none))) = some (r1, r2, r3) := H
     have A10 := Aside0.mk A100
     clear A100
     by_cases c11 : t243 = true
     ·subst c11
      have H1 : (zB.l0 k1 a0 l1 x6_1 (wrap64 (x7_1 + 1))) = some (r1, r2, r3) := by rw [if_pos rfl] at H; exact H
      clear H
      have H := H1
      clear H1
      have H' := Aside0.mk H
      clear H
      go_wp2_with (first | ((with_reducible refine ze (f := 14) rfl ?_); refine zv (some 17) rfl rfl Tryz.func14 (by kernel_rfl) rfl #[.int .i64 a0] rfl sqM ?_; (with_reducible refine (qj.calls a0 t242 _ A8.out).mono ?_); rintro e w' ⟨rfl, ⟨nd, rfl⟩⟩; refine ⟨_, rfl, ?_⟩) | ((with_reducible refine ze (f := 28) rfl ?_); refine zv (some 23) rfl rfl Tryz.func28 (by kernel_rfl) rfl #[.slice A1 l1.length c1, .int .i64 x7_1] rfl sqM ?_; (with_reducible refine (qP.calls k1 _ _ l1 x7_1 true _ ?side1 ?side2 A10.out).mono ?_); (case side1 => exact sqC (Kd.zt HR1.out sqB)); (case side2 => exact HC1.out); rintro e w' ⟨rfl, ⟨nd, rfl⟩⟩; refine ⟨_, rfl, ?_⟩))
      go_roundg k1
      case measure => have := HK1.out; omega
      case rel => exact ⟨(x6_1), (wrap64 (x7_1 + 1)), (sqD), H', ⟨by have := HK1.out; omega⟩, ⟨sqR HO_6.out⟩, ⟨sqK BK237.out⟩, ⟨sqB⟩⟩
     ·replace c11 := Bool.eq_false_iff.mpr c11
      subst c11
      have H1 : (if x6_1.length < 17592186044416 then (zB.l0 k1 a0 l1 (x6_1 ++ [x7_1]) (wrap64 (x7_1 + 1))) else (none)) = some (r1, r2, r3) := by rw [if_neg (show ¬ (false = true) by decide)] at H; exact H
      clear H
      have H := H1
      clear H1
      by_cases c12 : x6_1.length < 17592186044416
      ·rw [if_pos c12] at H
       have LMc12 := Aside0.mk c12
       clear c12
       obtain ⟨y244, hy244⟩ : ∃ y_ : List Int, y_ = (x6_1 ++ [x7_1]) := ⟨_, rfl⟩
       replace H : (zB.l0 k1 a0 l1 y244 (wrap64 (x7_1 + 1))) = some (r1, r2, r3) := by first | (rw [hy244]; with_reducible exact H) | (have H2_ := (Option.bind_some _ _).symm.trans H; rw [hy244]; with_reducible exact H2_) | (have H2_ := (Option.bind_some _ _).symm.trans H; with_reducible exact H2_) | with_reducible exact H | (rw [hy244]; exact H) | exact H
       have Ny244 := Aside0.mk hy244
       clear hy244
       have H' := Aside0.mk H
       clear H
       go_wp2_with (first | ((with_reducible refine ze (f := 14) rfl ?_); refine zv (some 17) rfl rfl Tryz.func14 (by kernel_rfl) rfl #[.int .i64 a0] rfl sqM ?_; (with_reducible refine (qj.calls a0 t242 _ A8.out).mono ?_); rintro e w' ⟨rfl, ⟨nd, rfl⟩⟩; refine ⟨_, rfl, ?_⟩) | ((with_reducible refine ze (f := 28) rfl ?_); refine zv (some 23) rfl rfl Tryz.func28 (by kernel_rfl) rfl #[.slice A1 l1.length c1, .int .i64 x7_1] rfl sqM ?_; (with_reducible refine (qP.calls k1 _ _ l1 x7_1 false _ ?side1 ?side2 A10.out).mono ?_); (case side1 => exact sqC (Kd.zt HR1.out sqB)); (case side2 => exact HC1.out); rintro e w' ⟨rfl, ⟨nd, rfl⟩⟩; refine ⟨_, rfl, ?_⟩) | ((with_reducible refine qB (b := .append) (xs := #[.tmp 25, .tmp 27]) rfl ?_); at_builtin; refine Kd.ji (Kd.int .i64) (w0 := w) w.heap.size rfl (.tmp 25) (.tmp 27) 22 3 (.int .i64 0) 8 rfl Tryz.underlying22 jH rfl (by decide) (by omega) u6 x6_1 x7_1 [.int .i64 x7_1] (fun _ => True) (fun _ => False) rfl rfl ?aP (fun _ hk => hk.elim) ?aF ?aO ?aB ?aS ?aL ?_; (case aP => exact rfl); (case aB => exact sqB); (case aF => exact (fun _ _ => trivial)); (case aO => exact (sqR HO_6.out)); (case aS => exact (zh sqB)); (case aL => have := LMc12.out; omega); intro v245 w13 ho hb hg hat; rw [← Ny244.out] at ho; have n0_ := Aside0.mk (vz (g := gb237) (o := .cells #[.int .i64 0, .slice none 0 0] 24 (0, 0)) (sqK BK237.out) hg (Kd.Qt HO_6.out BK237.out (by decide))); have n1_ := Aside0.mk (hb); have n2_ := Aside0.mk (ho); clear BK237; clear HB; clear HO_6; have BK237 := n0_; have HB := n1_; have HO246 := n2_; clear n0_ n1_ n2_; clear ho hb hg hat))
       go_roundg k1
       case measure => have := HK1.out; omega
       case rel => exact ⟨(y244), (wrap64 (x7_1 + 1)), (sqD), H', ⟨by have := HK1.out; omega⟩, ⟨sqR HO246.out⟩, ⟨sqK BK237.out⟩, ⟨sqB⟩⟩
      ·rw [if_neg c12] at H
       exact absurd H (by simp)
    ·rw [if_neg c9] at H
     have c9b0 : decide (x7_1 ≤ t242) = false := decide_eq_false c9
     clear c9
     replace H := Option.bind_eq_some_iff.mp H
     obtain ⟨t247, A140, H⟩ := H
     replace H : ((qD.f k1 a0 t247).bind fun t251 => (if t251 = true then ((qi.f k1 a0 t247).bind fun t252 => ((qe.f k1 t252 l1).bind fun t255 => (if t255 = true then (some (a0, t247, true)) else (some (0, ([] : List Int), false))))) else (some (0, ([] : List Int), false)))) = some (r1, r2, r3) := H
     have A14 := Aside0.mk A140
     clear A140
     replace H := Option.bind_eq_some_iff.mp H
     obtain ⟨t251, A150, H⟩ := H
     replace H : (if t251 = true then ((qi.f k1 a0 t247).bind fun t252 => ((qe.f k1 t252 l1).bind fun t255 => (if t255 = true then (some (a0, t247, true)) else (some (0, ([] : List Int), false))))) else (some (0, ([] : List Int), false))) = some (r1, r2, r3) := H
     have A15 := Aside0.mk A150
     clear A150
     by_cases c16 : t251 = true
     ·subst c16
      have H1 : ((qi.f k1 a0 t247).bind fun t252 => ((qe.f k1 t252 l1).bind fun t255 => (if t255 = true then (some (a0, t247, true)) else (some (0, ([] : List Int), false))))) = some (r1, r2, r3) := by rw [if_pos rfl] at H; exact H
      clear H
      have H := H1
      clear H1
      replace H := Option.bind_eq_some_iff.mp H
      obtain ⟨t252, A170, H⟩ := H
      replace H : ((qe.f k1 t252 l1).bind fun t255 => (if t255 = true then (some (a0, t247, true)) else (some (0, ([] : List Int), false)))) = some (r1, r2, r3) := H
      have A17 := Aside0.mk A170
      clear A170
      replace H := Option.bind_eq_some_iff.mp H
      obtain ⟨t255, A180, H⟩ := H
      replace H : (if t255 = true then (some (a0, t247, true)) else (some (0, ([] : List Int), false))) = some (r1, r2, r3) := H
      have A18 := Aside0.mk A180
      clear A180
      by_cases c19 : t255 = true
      ·subst c19
       have H1 : (some (a0, t247, true)) = some (r1, r2, r3) := by rw [if_pos rfl] at H; exact H
       clear H
       have H := H1
       clear H1
       simp only [Option.some.injEq, Prod.mk.injEq] at H
       obtain ⟨rfl, rfl, rfl⟩ := H
       go_wp2_with (first | ((with_reducible refine ze (f := 14) rfl ?_); refine zv (some 17) rfl rfl Tryz.func14 (by kernel_rfl) rfl #[.int .i64 a0] rfl sqM ?_; (with_reducible refine (qj.calls a0 t242 _ A8.out).mono ?_); rintro e w' ⟨rfl, ⟨nd, rfl⟩⟩; refine ⟨_, rfl, ?_⟩; (try (rw [qO wr]; generalize hq_ : World.drewN wr _ = wr; have n0_ : Aside0 (Kd.R (Kd.int .i64) 3 wr w.heap.size (fun _ => True) u6 x6_1) := ⟨by rw [← hq_]; exact (sqR HO_6.out)⟩; have n1_ : Aside0 (wr.heap[gb237]? = some (.cells #[.int .i64 0, .slice none 0 0] 24 (0, 0))) := ⟨by rw [← hq_]; exact (sqK BK237.out)⟩; have n2_ : Aside0 (Below w.heap.size w wr) := ⟨by rw [← hq_]; exact sqB⟩; clear HO_6 BK237 HB hq_; have HO_6 := n0_; have BK237 := n1_; have HB := n2_; clear n0_ n1_ n2_; have hczqgb237_0 : wr.cell? ⟨gb237, 0, none⟩ = some (.int .i64 0) := (za BK237.out 0).trans rfl; have hfzqgb237_0 := zb BK237.out 0; have hczqgb237_1 : wr.cell? ⟨gb237, 1, none⟩ = some (.slice none 0 0) := (za BK237.out 1).trans rfl; have hfzqgb237_1 := zb BK237.out 1)); obtain ⟨Ao20, co20, eo20⟩ := Kd.zK HO_6.out; subst eo20) | ((with_reducible refine ze (f := 29) rfl ?_); refine zv (some 31) rfl rfl Tryz.func29 (by kernel_rfl) rfl #[.slice Ao20 x6_1.length co20] rfl sqM ?_; (with_reducible refine (zE.calls k1 _ _ x6_1 t247 _ ?side1 ?side2 A14.out).mono ?_); (case side1 => exact sqC (Kd.zg HO_6.out).2.2); (case side2 => exact (Kd.zg HO_6.out).2.1); rintro e w21 ⟨v248, rfl, ho0, hb⟩; refine ⟨_, rfl, ?_⟩; have n0_ := Aside0.mk (Kd.zw (sqR HO_6.out) (Kd.zQ ho0) hb); have n1_ := Aside0.mk (Kd.zD (Kd.zP ho0 (Kd.qt (sqR HO_6.out))) (zh sqB)); have n2_ := Aside0.mk (zd (g := gb237) (o := .cells #[.int .i64 0, .slice none 0 0] 24 (0, 0)) (sqK BK237.out) hb); have n3_ := Aside0.mk (zc sqB hb); clear HO_6; clear BK237; clear HB; have HO_6 := n0_; have HO249 := n1_; have BK237 := n2_; have HB := n3_; clear n0_ n1_ n2_ n3_; (try clear hb); (try clear hb2); (try clear hk); (try clear hi); (try clear ho0); obtain ⟨Ao22, co22, eo22⟩ := Kd.zK HO249.out; subst eo22) | ((with_reducible refine zm (N := 8) rfl ?_); refine zq ?hg (N := 8) ?hd (cs := #[.int .i64 0, .slice none 0 0]) (t := 24) ?hr ?_; (case hd => rfl); (case hg => rfl); (case hr => exact sqG); intro gb250 hg w23 hbox hb; have n0_ := Aside0.mk (Kd.zx (sqR HO_6.out) hb); have n1_ := Aside0.mk (Kd.zx (sqR HO249.out) hb); have n2_ := Aside0.mk (zd (g := gb237) (o := .cells #[.int .i64 0, .slice none 0 0] 24 (0, 0)) (sqK BK237.out) hb); have n3_ := Aside0.mk (zc sqB hb); have n4_ := Aside0.mk (hbox); have n5_ := Aside0.mk ((sqS hg : w.heap.size ≤ gb250)); have n6_ := Aside0.mk ((sqS hg : w.heap.size ≤ gb250)); have n7_ := Aside0.mk ((by rw [hg]; exact Nat.ne_of_lt (zU (g := gb237) (o := .cells #[.int .i64 0, .slice none 0 0] 24 (0, 0)) (sqK BK237.out)) : gb237 ≠ gb250)); have n8_ := Aside0.mk ((by rw [hg]; exact Nat.ne_of_gt (zU (g := gb237) (o := .cells #[.int .i64 0, .slice none 0 0] 24 (0, 0)) (sqK BK237.out)) : gb250 ≠ gb237)); clear HO_6; clear HO249; clear BK237; clear HB; have HO_6 := n0_; have HO249 := n1_; have BK237 := n2_; have HB := n3_; have BK250 := n4_; have GW250 := n5_; have GE250 := n6_; have NB237_250 := n7_; have NB250_237 := n8_; clear n0_ n1_ n2_ n3_ n4_ n5_ n6_ n7_ n8_; clear hb hbox hg; have hnb24 := NB250_237.out; have hnc24 := NB237_250.out; have hcz25_0 : w23.cell? ⟨gb250, 0, none⟩ = some (.int .i64 0) := (za BK250.out 0).trans rfl; have hcz25_1 : w23.cell? ⟨gb250, 1, none⟩ = some (.slice none 0 0) := (za BK250.out 1).trans rfl; have hfz25_0 := zb BK250.out 0; have hfz25_1 := zb BK250.out 1) | ((with_reducible refine ze (f := 30) rfl ?_); refine zv (some 34) rfl rfl Tryz.func30 (by kernel_rfl) rfl #[.agg #[.int .i64 a0, .slice Ao22 t247.length co22]] rfl sqM ?_; (with_reducible refine (qD.calls k1 a0 _ _ t247 true _ ?side1 ?side2 A15.out).mono ?_); (case side1 => refine (Kd.zg (e := 3) (base := w.heap.size) (ok := fun k_ => (True ∧ some k_ ≠ (.slice Ao20 x6_1.length co20 : Value).ownBlock)) (n := t247.length) (c := co22) ?_).2.2; exact (by refine sqR ?_; exact (Kd.zn (Kd.zp (p := ⟨gb250, 1, none⟩) (Kd.zp (p := ⟨gb250, 0, none⟩) (Kd.zz HO249.out BK250.out (by decide)) (fun _ hk => hk.2) (.int .i64 a0)) (fun _ hk => hk.2) (.slice Ao22 t247.length co22)) (fun _ h_ => h_.1)))); (case side2 => exact (Kd.zg HO249.out).2.1); rintro e w26 ⟨rfl, hb⟩; refine ⟨_, rfl, ?_⟩; have n0_ := Aside0.mk (Kd.zx (by refine sqR ?_; exact (Kd.zn (Kd.zp (p := ⟨gb250, 1, none⟩) (Kd.zp (p := ⟨gb250, 0, none⟩) (Kd.zz HO_6.out BK250.out (by decide)) (fun _ hk => hk.2) (.int .i64 a0)) (fun _ hk => hk.2) (.slice Ao22 t247.length co22)) (fun _ h_ => h_.1))) hb); have n1_ := Aside0.mk (Kd.zx (by refine sqR ?_; exact (Kd.zn (Kd.zp (p := ⟨gb250, 1, none⟩) (Kd.zp (p := ⟨gb250, 0, none⟩) (Kd.zz HO249.out BK250.out (by decide)) (fun _ hk => hk.2) (.int .i64 a0)) (fun _ hk => hk.2) (.slice Ao22 t247.length co22)) (fun _ h_ => h_.1))) hb); have n2_ := Aside0.mk (zd (g := gb237) (o := .cells #[.int .i64 0, .slice none 0 0] 24 (0, 0)) (by refine sqK ?_; refine z6 ?_ NB237_250.out _; refine sqK ?_; refine z6 ?_ NB237_250.out _; refine sqK ?_; exact BK237.out) hb); have n3_ := Aside0.mk (zd (g := gb250) (o := .cells #[.int .i64 a0, .slice Ao22 t247.length co22] 24 (0, 0)) (by refine sqK ?_; refine zF (cs := #[.int .i64 a0, .slice none 0 0]) ?_ 1 _ rfl; refine sqK ?_; refine zF (cs := #[.int .i64 0, .slice none 0 0]) ?_ 0 _ rfl; refine sqK ?_; exact BK250.out) hb); have n4_ := Aside0.mk (zc sqB hb); clear HO_6; clear HO249; clear BK237; clear BK250; clear HB; have HO_6 := n0_; have HO249 := n1_; have BK237 := n2_; have BK250 := n3_; have HB := n4_; clear n0_ n1_ n2_ n3_ n4_; (try clear hb); (try clear hb2); (try clear hk); (try clear hi); have hcz27_0 : w26.cell? ⟨gb250, 0, none⟩ = some (.int .i64 a0) := (za BK250.out 0).trans rfl; have hcz27_1 : w26.cell? ⟨gb250, 1, none⟩ = some (.slice Ao22 t247.length co22) := (za BK250.out 1).trans rfl; have hfz27_0 := zb BK250.out 0; have hfz27_1 := zb BK250.out 1) | (go_at_call 31; (try simp only [zi, zj]); (with_reducible refine (qi.calls k1 a0 _ _ t247 t252 _ ?side1 ?side2 A17.out).mono ?_); (case side1 => exact sqC (Kd.zg HO249.out).2.2); (case side2 => exact (Kd.zg HO249.out).2.1); rintro e w28 ⟨v253, rfl, ho0, hb⟩; have n0_ := Aside0.mk (Kd.zw (sqR HO_6.out) (Kd.zQ ho0) hb); have n1_ := Aside0.mk (Kd.zw (sqR HO249.out) (Kd.zQ ho0) hb); have n2_ := Aside0.mk (Kd.zD (Kd.zP (Kd.zP ho0 (Kd.qt (sqR HO_6.out))) (Kd.qt (sqR HO249.out))) (zh sqB)); have n3_ := Aside0.mk (zd (g := gb237) (o := .cells #[.int .i64 0, .slice none 0 0] 24 (0, 0)) (sqK BK237.out) hb); have n4_ := Aside0.mk (zd (g := gb250) (o := .cells #[.int .i64 a0, .slice Ao22 t247.length co22] 24 (0, 0)) (sqK BK250.out) hb); have n5_ := Aside0.mk (zc sqB hb); clear HO_6; clear HO249; clear BK237; clear BK250; clear HB; have HO_6 := n0_; have HO249 := n1_; have HO254 := n2_; have BK237 := n3_; have BK250 := n4_; have HB := n5_; clear n0_ n1_ n2_ n3_ n4_ n5_; (try clear hb); (try clear hb2); (try clear hk); (try clear hi); (try clear ho0); obtain ⟨Ao29, co29, eo29⟩ := Kd.zK HO254.out; subst eo29) | (go_at_call 17; (try simp only [zi, zj]); (with_reducible refine (qe.calls k1 _ _ t252 _ _ l1 true _ ?side1 ?side2 ?side3 ?side4 A18.out).mono ?_); (case side1 => exact sqC (Kd.zg HO254.out).2.2); (case side2 => exact (Kd.zg HO254.out).2.1); (case side3 => exact sqC (Kd.zt HR1.out HB.out)); (case side4 => exact HC1.out); rintro e w' ⟨rfl, ⟨nd, rfl⟩⟩; (try (rw [qO w28]; generalize hq_ : World.drewN w28 _ = w28; have n0_ : Aside0 (Kd.R (Kd.int .i64) 3 w28 w.heap.size (fun k_ => some k_ ≠ (.slice Ao29 t252.length co29 : Value).ownBlock ∧ some k_ ≠ (.slice Ao20 x6_1.length co20 : Value).ownBlock) (.slice Ao22 t247.length co22) t247) := ⟨by rw [← hq_]; exact (by refine sqR ?_; exact Kd.zn HO249.out (fun _ hk => by first | exact ⟨hk.2, hk.1.2⟩ | (refine ⟨?_, ?_⟩ <;> intro e_ <;> simp only [e_, ne_eq, not_true_eq_false, and_false, false_and] at hk)))⟩; have n1_ : Aside0 (Kd.R (Kd.int .i64) 3 w28 w.heap.size (fun k_ => some k_ ≠ (.slice Ao22 t247.length co22 : Value).ownBlock ∧ some k_ ≠ (.slice Ao20 x6_1.length co20 : Value).ownBlock) (.slice Ao29 t252.length co29) t252) := ⟨by rw [← hq_]; exact (by refine sqR ?_; exact Kd.zn HO254.out (fun _ hk => by first | exact ⟨hk.2, hk.1.2⟩ | (refine ⟨?_, ?_⟩ <;> intro e_ <;> simp only [e_, ne_eq, not_true_eq_false, and_false, false_and] at hk)))⟩; have n2_ : Aside0 (Kd.R (Kd.int .i64) 3 w28 w.heap.size (fun k_ => some k_ ≠ (.slice Ao22 t247.length co22 : Value).ownBlock ∧ some k_ ≠ (.slice Ao29 t252.length co29 : Value).ownBlock) (.slice Ao20 x6_1.length co20) x6_1) := ⟨by rw [← hq_]; exact (by refine sqR ?_; exact Kd.zn HO_6.out (fun _ hk => by first | exact ⟨hk.1.2, hk.2⟩ | (refine ⟨?_, ?_⟩ <;> intro e_ <;> simp only [e_, ne_eq, not_true_eq_false, and_false, false_and] at hk)))⟩; have n3_ : Aside0 (w28.heap[gb237]? = some (.cells #[.int .i64 0, .slice none 0 0] 24 (0, 0))) := ⟨by rw [← hq_]; exact (sqK BK237.out)⟩; have n4_ : Aside0 (w28.heap[gb250]? = some (.cells #[.int .i64 a0, .slice Ao22 t247.length co22] 24 (0, 0))) := ⟨by rw [← hq_]; exact (sqK BK250.out)⟩; have n5_ : Aside0 (Below w.heap.size w w28) := ⟨by rw [← hq_]; exact sqB⟩; clear HO249 HO254 HO_6 BK237 BK250 HB hq_; have HO249 := n0_; have HO254 := n1_; have HO_6 := n2_; have BK237 := n3_; have BK250 := n4_; have HB := n5_; clear n0_ n1_ n2_ n3_ n4_ n5_; have hczqgb237_0 : w28.cell? ⟨gb237, 0, none⟩ = some (.int .i64 0) := (za BK237.out 0).trans rfl; have hfzqgb237_0 := zb BK237.out 0; have hczqgb237_1 : w28.cell? ⟨gb237, 1, none⟩ = some (.slice none 0 0) := (za BK237.out 1).trans rfl; have hfzqgb237_1 := zb BK237.out 1; have hczqgb250_0 : w28.cell? ⟨gb250, 0, none⟩ = some (.int .i64 a0) := (za BK250.out 0).trans rfl; have hfzqgb250_0 := zb BK250.out 0; have hczqgb250_1 : w28.cell? ⟨gb250, 1, none⟩ = some (.slice Ao22 t247.length co22) := (za BK250.out 1).trans rfl; have hfzqgb250_1 := zb BK250.out 1)); have hcz30_0 : w28.cell? ⟨gb250, 0, none⟩ = some (.int .i64 a0) := (za BK250.out 0).trans rfl; have hcz30_1 : w28.cell? ⟨gb250, 1, none⟩ = some (.slice Ao22 t247.length co22) := (za BK250.out 1).trans rfl; have hfz30_0 := zb BK250.out 0; have hfz30_1 := zb BK250.out 1; have hcz31_0 : w28.cell? ⟨gb237, 0, none⟩ = some (.int .i64 0) := (za BK237.out 0).trans rfl; have hcz31_1 : w28.cell? ⟨gb237, 1, none⟩ = some (.slice none 0 0) := (za BK237.out 1).trans rfl; have hfz31_0 := zb BK237.out 0; have hfz31_1 := zb BK237.out 1))
       refine bodyPost_ret (qz rfl _ _ gb237 24 #[.int .i64 a0, .slice Ao22 t247.length co22] (0, 0) _ rfl (by refine sqK ?_; refine zF (cs := #[.int .i64 a0, .slice none 0 0]) ?_ 1 _ rfl; refine sqK ?_; refine zF (cs := #[.int .i64 0, .slice none 0 0]) ?_ 0 _ rfl; refine sqK ?_; exact BK237.out) Tryz.underlying24 rfl (by kernel_rfl)) rfl ?_
       exact ⟨_, sqE, by refine sqR ?_; exact Kd.zn (Kd.zp (p := ⟨gb237, 1, none⟩) (Kd.zp (p := ⟨gb237, 0, none⟩) (Kd.zz HO249.out BK237.out (by decide)) (fun _ hk => hk.2) (.int .i64 a0)) (fun _ hk => hk.2) (.slice Ao22 t247.length co22)) (fun _ hk => trivial), sqB⟩
      ·replace c19 := Bool.eq_false_iff.mpr c19
       subst c19
       have H1 : (some (0, ([] : List Int), false)) = some (r1, r2, r3) := by rw [if_neg (show ¬ (false = true) by decide)] at H; exact H
       clear H
       have H := H1
       clear H1
       simp only [Option.some.injEq, Prod.mk.injEq] at H
       obtain ⟨rfl, rfl, rfl⟩ := H
       go_wp2_with (first | ((with_reducible refine ze (f := 14) rfl ?_); refine zv (some 17) rfl rfl Tryz.func14 (by kernel_rfl) rfl #[.int .i64 a0] rfl sqM ?_; (with_reducible refine (qj.calls a0 t242 _ A8.out).mono ?_); rintro e w' ⟨rfl, ⟨nd, rfl⟩⟩; refine ⟨_, rfl, ?_⟩; (try (rw [qO wr]; generalize hq_ : World.drewN wr _ = wr; have n0_ : Aside0 (Kd.R (Kd.int .i64) 3 wr w.heap.size (fun _ => True) u6 x6_1) := ⟨by rw [← hq_]; exact (sqR HO_6.out)⟩; have n1_ : Aside0 (wr.heap[gb237]? = some (.cells #[.int .i64 0, .slice none 0 0] 24 (0, 0))) := ⟨by rw [← hq_]; exact (sqK BK237.out)⟩; have n2_ : Aside0 (Below w.heap.size w wr) := ⟨by rw [← hq_]; exact sqB⟩; clear HO_6 BK237 HB hq_; have HO_6 := n0_; have BK237 := n1_; have HB := n2_; clear n0_ n1_ n2_; have hczqgb237_0 : wr.cell? ⟨gb237, 0, none⟩ = some (.int .i64 0) := (za BK237.out 0).trans rfl; have hfzqgb237_0 := zb BK237.out 0; have hczqgb237_1 : wr.cell? ⟨gb237, 1, none⟩ = some (.slice none 0 0) := (za BK237.out 1).trans rfl; have hfzqgb237_1 := zb BK237.out 1)); obtain ⟨Ao32, co32, eo32⟩ := Kd.zK HO_6.out; subst eo32) | ((with_reducible refine ze (f := 29) rfl ?_); refine zv (some 31) rfl rfl Tryz.func29 (by kernel_rfl) rfl #[.slice Ao32 x6_1.length co32] rfl sqM ?_; (with_reducible refine (zE.calls k1 _ _ x6_1 t247 _ ?side1 ?side2 A14.out).mono ?_); (case side1 => exact sqC (Kd.zg HO_6.out).2.2); (case side2 => exact (Kd.zg HO_6.out).2.1); rintro e w33 ⟨v248, rfl, ho0, hb⟩; refine ⟨_, rfl, ?_⟩; have n0_ := Aside0.mk (Kd.zw (sqR HO_6.out) (Kd.zQ ho0) hb); have n1_ := Aside0.mk (Kd.zD (Kd.zP ho0 (Kd.qt (sqR HO_6.out))) (zh sqB)); have n2_ := Aside0.mk (zd (g := gb237) (o := .cells #[.int .i64 0, .slice none 0 0] 24 (0, 0)) (sqK BK237.out) hb); have n3_ := Aside0.mk (zc sqB hb); clear HO_6; clear BK237; clear HB; have HO_6 := n0_; have HO249 := n1_; have BK237 := n2_; have HB := n3_; clear n0_ n1_ n2_ n3_; (try clear hb); (try clear hb2); (try clear hk); (try clear hi); (try clear ho0); obtain ⟨Ao34, co34, eo34⟩ := Kd.zK HO249.out; subst eo34) | ((with_reducible refine zm (N := 8) rfl ?_); refine zq ?hg (N := 8) ?hd (cs := #[.int .i64 0, .slice none 0 0]) (t := 24) ?hr ?_; (case hd => rfl); (case hg => rfl); (case hr => exact sqG); intro gb250 hg w35 hbox hb; have n0_ := Aside0.mk (Kd.zx (sqR HO_6.out) hb); have n1_ := Aside0.mk (Kd.zx (sqR HO249.out) hb); have n2_ := Aside0.mk (zd (g := gb237) (o := .cells #[.int .i64 0, .slice none 0 0] 24 (0, 0)) (sqK BK237.out) hb); have n3_ := Aside0.mk (zc sqB hb); have n4_ := Aside0.mk (hbox); have n5_ := Aside0.mk ((sqS hg : w.heap.size ≤ gb250)); have n6_ := Aside0.mk ((sqS hg : w.heap.size ≤ gb250)); have n7_ := Aside0.mk ((by rw [hg]; exact Nat.ne_of_lt (zU (g := gb237) (o := .cells #[.int .i64 0, .slice none 0 0] 24 (0, 0)) (sqK BK237.out)) : gb237 ≠ gb250)); have n8_ := Aside0.mk ((by rw [hg]; exact Nat.ne_of_gt (zU (g := gb237) (o := .cells #[.int .i64 0, .slice none 0 0] 24 (0, 0)) (sqK BK237.out)) : gb250 ≠ gb237)); clear HO_6; clear HO249; clear BK237; clear HB; have HO_6 := n0_; have HO249 := n1_; have BK237 := n2_; have HB := n3_; have BK250 := n4_; have GW250 := n5_; have GE250 := n6_; have NB237_250 := n7_; have NB250_237 := n8_; clear n0_ n1_ n2_ n3_ n4_ n5_ n6_ n7_ n8_; clear hb hbox hg; have hnb36 := NB250_237.out; have hnc36 := NB237_250.out; have hcz37_0 : w35.cell? ⟨gb250, 0, none⟩ = some (.int .i64 0) := (za BK250.out 0).trans rfl; have hcz37_1 : w35.cell? ⟨gb250, 1, none⟩ = some (.slice none 0 0) := (za BK250.out 1).trans rfl; have hfz37_0 := zb BK250.out 0; have hfz37_1 := zb BK250.out 1) | ((with_reducible refine ze (f := 30) rfl ?_); refine zv (some 34) rfl rfl Tryz.func30 (by kernel_rfl) rfl #[.agg #[.int .i64 a0, .slice Ao34 t247.length co34]] rfl sqM ?_; (with_reducible refine (qD.calls k1 a0 _ _ t247 true _ ?side1 ?side2 A15.out).mono ?_); (case side1 => refine (Kd.zg (e := 3) (base := w.heap.size) (ok := fun k_ => (True ∧ some k_ ≠ (.slice Ao32 x6_1.length co32 : Value).ownBlock)) (n := t247.length) (c := co34) ?_).2.2; exact (by refine sqR ?_; exact (Kd.zn (Kd.zp (p := ⟨gb250, 1, none⟩) (Kd.zp (p := ⟨gb250, 0, none⟩) (Kd.zz HO249.out BK250.out (by decide)) (fun _ hk => hk.2) (.int .i64 a0)) (fun _ hk => hk.2) (.slice Ao34 t247.length co34)) (fun _ h_ => h_.1)))); (case side2 => exact (Kd.zg HO249.out).2.1); rintro e w38 ⟨rfl, hb⟩; refine ⟨_, rfl, ?_⟩; have n0_ := Aside0.mk (Kd.zx (by refine sqR ?_; exact (Kd.zn (Kd.zp (p := ⟨gb250, 1, none⟩) (Kd.zp (p := ⟨gb250, 0, none⟩) (Kd.zz HO_6.out BK250.out (by decide)) (fun _ hk => hk.2) (.int .i64 a0)) (fun _ hk => hk.2) (.slice Ao34 t247.length co34)) (fun _ h_ => h_.1))) hb); have n1_ := Aside0.mk (Kd.zx (by refine sqR ?_; exact (Kd.zn (Kd.zp (p := ⟨gb250, 1, none⟩) (Kd.zp (p := ⟨gb250, 0, none⟩) (Kd.zz HO249.out BK250.out (by decide)) (fun _ hk => hk.2) (.int .i64 a0)) (fun _ hk => hk.2) (.slice Ao34 t247.length co34)) (fun _ h_ => h_.1))) hb); have n2_ := Aside0.mk (zd (g := gb237) (o := .cells #[.int .i64 0, .slice none 0 0] 24 (0, 0)) (by refine sqK ?_; refine z6 ?_ NB237_250.out _; refine sqK ?_; refine z6 ?_ NB237_250.out _; refine sqK ?_; exact BK237.out) hb); have n3_ := Aside0.mk (zd (g := gb250) (o := .cells #[.int .i64 a0, .slice Ao34 t247.length co34] 24 (0, 0)) (by refine sqK ?_; refine zF (cs := #[.int .i64 a0, .slice none 0 0]) ?_ 1 _ rfl; refine sqK ?_; refine zF (cs := #[.int .i64 0, .slice none 0 0]) ?_ 0 _ rfl; refine sqK ?_; exact BK250.out) hb); have n4_ := Aside0.mk (zc sqB hb); clear HO_6; clear HO249; clear BK237; clear BK250; clear HB; have HO_6 := n0_; have HO249 := n1_; have BK237 := n2_; have BK250 := n3_; have HB := n4_; clear n0_ n1_ n2_ n3_ n4_; (try clear hb); (try clear hb2); (try clear hk); (try clear hi); have hcz39_0 : w38.cell? ⟨gb250, 0, none⟩ = some (.int .i64 a0) := (za BK250.out 0).trans rfl; have hcz39_1 : w38.cell? ⟨gb250, 1, none⟩ = some (.slice Ao34 t247.length co34) := (za BK250.out 1).trans rfl; have hfz39_0 := zb BK250.out 0; have hfz39_1 := zb BK250.out 1) | (go_at_call 31; (try simp only [zi, zj]); (with_reducible refine (qi.calls k1 a0 _ _ t247 t252 _ ?side1 ?side2 A17.out).mono ?_); (case side1 => exact sqC (Kd.zg HO249.out).2.2); (case side2 => exact (Kd.zg HO249.out).2.1); rintro e w40 ⟨v253, rfl, ho0, hb⟩; have n0_ := Aside0.mk (Kd.zw (sqR HO_6.out) (Kd.zQ ho0) hb); have n1_ := Aside0.mk (Kd.zw (sqR HO249.out) (Kd.zQ ho0) hb); have n2_ := Aside0.mk (Kd.zD (Kd.zP (Kd.zP ho0 (Kd.qt (sqR HO_6.out))) (Kd.qt (sqR HO249.out))) (zh sqB)); have n3_ := Aside0.mk (zd (g := gb237) (o := .cells #[.int .i64 0, .slice none 0 0] 24 (0, 0)) (sqK BK237.out) hb); have n4_ := Aside0.mk (zd (g := gb250) (o := .cells #[.int .i64 a0, .slice Ao34 t247.length co34] 24 (0, 0)) (sqK BK250.out) hb); have n5_ := Aside0.mk (zc sqB hb); clear HO_6; clear HO249; clear BK237; clear BK250; clear HB; have HO_6 := n0_; have HO249 := n1_; have HO254 := n2_; have BK237 := n3_; have BK250 := n4_; have HB := n5_; clear n0_ n1_ n2_ n3_ n4_ n5_; (try clear hb); (try clear hb2); (try clear hk); (try clear hi); (try clear ho0); obtain ⟨Ao41, co41, eo41⟩ := Kd.zK HO254.out; subst eo41) | (go_at_call 17; (try simp only [zi, zj]); (with_reducible refine (qe.calls k1 _ _ t252 _ _ l1 false _ ?side1 ?side2 ?side3 ?side4 A18.out).mono ?_); (case side1 => exact sqC (Kd.zg HO254.out).2.2); (case side2 => exact (Kd.zg HO254.out).2.1); (case side3 => exact sqC (Kd.zt HR1.out HB.out)); (case side4 => exact HC1.out); rintro e w' ⟨rfl, ⟨nd, rfl⟩⟩; (try (rw [qO w40]; generalize hq_ : World.drewN w40 _ = w40; have n0_ : Aside0 (Kd.R (Kd.int .i64) 3 w40 w.heap.size (fun k_ => some k_ ≠ (.slice Ao41 t252.length co41 : Value).ownBlock ∧ some k_ ≠ (.slice Ao32 x6_1.length co32 : Value).ownBlock) (.slice Ao34 t247.length co34) t247) := ⟨by rw [← hq_]; exact (by refine sqR ?_; exact Kd.zn HO249.out (fun _ hk => by first | exact ⟨hk.2, hk.1.2⟩ | (refine ⟨?_, ?_⟩ <;> intro e_ <;> simp only [e_, ne_eq, not_true_eq_false, and_false, false_and] at hk)))⟩; have n1_ : Aside0 (Kd.R (Kd.int .i64) 3 w40 w.heap.size (fun k_ => some k_ ≠ (.slice Ao34 t247.length co34 : Value).ownBlock ∧ some k_ ≠ (.slice Ao32 x6_1.length co32 : Value).ownBlock) (.slice Ao41 t252.length co41) t252) := ⟨by rw [← hq_]; exact (by refine sqR ?_; exact Kd.zn HO254.out (fun _ hk => by first | exact ⟨hk.2, hk.1.2⟩ | (refine ⟨?_, ?_⟩ <;> intro e_ <;> simp only [e_, ne_eq, not_true_eq_false, and_false, false_and] at hk)))⟩; have n2_ : Aside0 (Kd.R (Kd.int .i64) 3 w40 w.heap.size (fun k_ => some k_ ≠ (.slice Ao34 t247.length co34 : Value).ownBlock ∧ some k_ ≠ (.slice Ao41 t252.length co41 : Value).ownBlock) (.slice Ao32 x6_1.length co32) x6_1) := ⟨by rw [← hq_]; exact (by refine sqR ?_; exact Kd.zn HO_6.out (fun _ hk => by first | exact ⟨hk.1.2, hk.2⟩ | (refine ⟨?_, ?_⟩ <;> intro e_ <;> simp only [e_, ne_eq, not_true_eq_false, and_false, false_and] at hk)))⟩; have n3_ : Aside0 (w40.heap[gb237]? = some (.cells #[.int .i64 0, .slice none 0 0] 24 (0, 0))) := ⟨by rw [← hq_]; exact (sqK BK237.out)⟩; have n4_ : Aside0 (w40.heap[gb250]? = some (.cells #[.int .i64 a0, .slice Ao34 t247.length co34] 24 (0, 0))) := ⟨by rw [← hq_]; exact (sqK BK250.out)⟩; have n5_ : Aside0 (Below w.heap.size w w40) := ⟨by rw [← hq_]; exact sqB⟩; clear HO249 HO254 HO_6 BK237 BK250 HB hq_; have HO249 := n0_; have HO254 := n1_; have HO_6 := n2_; have BK237 := n3_; have BK250 := n4_; have HB := n5_; clear n0_ n1_ n2_ n3_ n4_ n5_; have hczqgb237_0 : w40.cell? ⟨gb237, 0, none⟩ = some (.int .i64 0) := (za BK237.out 0).trans rfl; have hfzqgb237_0 := zb BK237.out 0; have hczqgb237_1 : w40.cell? ⟨gb237, 1, none⟩ = some (.slice none 0 0) := (za BK237.out 1).trans rfl; have hfzqgb237_1 := zb BK237.out 1; have hczqgb250_0 : w40.cell? ⟨gb250, 0, none⟩ = some (.int .i64 a0) := (za BK250.out 0).trans rfl; have hfzqgb250_0 := zb BK250.out 0; have hczqgb250_1 : w40.cell? ⟨gb250, 1, none⟩ = some (.slice Ao34 t247.length co34) := (za BK250.out 1).trans rfl; have hfzqgb250_1 := zb BK250.out 1)); have hcz42_0 : w40.cell? ⟨gb237, 0, none⟩ = some (.int .i64 0) := (za BK237.out 0).trans rfl; have hcz42_1 : w40.cell? ⟨gb237, 1, none⟩ = some (.slice none 0 0) := (za BK237.out 1).trans rfl; have hfz42_0 := zb BK237.out 0; have hfz42_1 := zb BK237.out 1))
       refine bodyPost_ret (qz rfl _ _ gb237 24 #[.int .i64 0, .slice none 0 0] (0, 0) _ rfl (by refine sqK ?_; refine zF (cs := #[.int .i64 0, .slice none 0 0]) ?_ 1 _ rfl; refine sqK ?_; refine zF (cs := #[.int .i64 0, .slice none 0 0]) ?_ 0 _ rfl; refine sqK ?_; exact BK237.out) Tryz.underlying24 rfl (by kernel_rfl)) rfl ?_
       exact ⟨_, sqE, sqN, sqB⟩
     ·replace c16 := Bool.eq_false_iff.mpr c16
      subst c16
      have H1 : (some (0, ([] : List Int), false)) = some (r1, r2, r3) := by rw [if_neg (show ¬ (false = true) by decide)] at H; exact H
      clear H
      have H := H1
      clear H1
      simp only [Option.some.injEq, Prod.mk.injEq] at H
      obtain ⟨rfl, rfl, rfl⟩ := H
      go_wp2_with (first | ((with_reducible refine ze (f := 14) rfl ?_); refine zv (some 17) rfl rfl Tryz.func14 (by kernel_rfl) rfl #[.int .i64 a0] rfl sqM ?_; (with_reducible refine (qj.calls a0 t242 _ A8.out).mono ?_); rintro e w' ⟨rfl, ⟨nd, rfl⟩⟩; refine ⟨_, rfl, ?_⟩; (try (rw [qO wr]; generalize hq_ : World.drewN wr _ = wr; have n0_ : Aside0 (Kd.R (Kd.int .i64) 3 wr w.heap.size (fun _ => True) u6 x6_1) := ⟨by rw [← hq_]; exact (sqR HO_6.out)⟩; have n1_ : Aside0 (wr.heap[gb237]? = some (.cells #[.int .i64 0, .slice none 0 0] 24 (0, 0))) := ⟨by rw [← hq_]; exact (sqK BK237.out)⟩; have n2_ : Aside0 (Below w.heap.size w wr) := ⟨by rw [← hq_]; exact sqB⟩; clear HO_6 BK237 HB hq_; have HO_6 := n0_; have BK237 := n1_; have HB := n2_; clear n0_ n1_ n2_; have hczqgb237_0 : wr.cell? ⟨gb237, 0, none⟩ = some (.int .i64 0) := (za BK237.out 0).trans rfl; have hfzqgb237_0 := zb BK237.out 0; have hczqgb237_1 : wr.cell? ⟨gb237, 1, none⟩ = some (.slice none 0 0) := (za BK237.out 1).trans rfl; have hfzqgb237_1 := zb BK237.out 1)); obtain ⟨Ao43, co43, eo43⟩ := Kd.zK HO_6.out; subst eo43) | ((with_reducible refine ze (f := 29) rfl ?_); refine zv (some 31) rfl rfl Tryz.func29 (by kernel_rfl) rfl #[.slice Ao43 x6_1.length co43] rfl sqM ?_; (with_reducible refine (zE.calls k1 _ _ x6_1 t247 _ ?side1 ?side2 A14.out).mono ?_); (case side1 => exact sqC (Kd.zg HO_6.out).2.2); (case side2 => exact (Kd.zg HO_6.out).2.1); rintro e w44 ⟨v248, rfl, ho0, hb⟩; refine ⟨_, rfl, ?_⟩; have n0_ := Aside0.mk (Kd.zw (sqR HO_6.out) (Kd.zQ ho0) hb); have n1_ := Aside0.mk (Kd.zD (Kd.zP ho0 (Kd.qt (sqR HO_6.out))) (zh sqB)); have n2_ := Aside0.mk (zd (g := gb237) (o := .cells #[.int .i64 0, .slice none 0 0] 24 (0, 0)) (sqK BK237.out) hb); have n3_ := Aside0.mk (zc sqB hb); clear HO_6; clear BK237; clear HB; have HO_6 := n0_; have HO249 := n1_; have BK237 := n2_; have HB := n3_; clear n0_ n1_ n2_ n3_; (try clear hb); (try clear hb2); (try clear hk); (try clear hi); (try clear ho0); obtain ⟨Ao45, co45, eo45⟩ := Kd.zK HO249.out; subst eo45) | ((with_reducible refine zm (N := 8) rfl ?_); refine zq ?hg (N := 8) ?hd (cs := #[.int .i64 0, .slice none 0 0]) (t := 24) ?hr ?_; (case hd => rfl); (case hg => rfl); (case hr => exact sqG); intro gb250 hg w46 hbox hb; have n0_ := Aside0.mk (Kd.zx (sqR HO_6.out) hb); have n1_ := Aside0.mk (Kd.zx (sqR HO249.out) hb); have n2_ := Aside0.mk (zd (g := gb237) (o := .cells #[.int .i64 0, .slice none 0 0] 24 (0, 0)) (sqK BK237.out) hb); have n3_ := Aside0.mk (zc sqB hb); have n4_ := Aside0.mk (hbox); have n5_ := Aside0.mk ((sqS hg : w.heap.size ≤ gb250)); have n6_ := Aside0.mk ((sqS hg : w.heap.size ≤ gb250)); have n7_ := Aside0.mk ((by rw [hg]; exact Nat.ne_of_lt (zU (g := gb237) (o := .cells #[.int .i64 0, .slice none 0 0] 24 (0, 0)) (sqK BK237.out)) : gb237 ≠ gb250)); have n8_ := Aside0.mk ((by rw [hg]; exact Nat.ne_of_gt (zU (g := gb237) (o := .cells #[.int .i64 0, .slice none 0 0] 24 (0, 0)) (sqK BK237.out)) : gb250 ≠ gb237)); clear HO_6; clear HO249; clear BK237; clear HB; have HO_6 := n0_; have HO249 := n1_; have BK237 := n2_; have HB := n3_; have BK250 := n4_; have GW250 := n5_; have GE250 := n6_; have NB237_250 := n7_; have NB250_237 := n8_; clear n0_ n1_ n2_ n3_ n4_ n5_ n6_ n7_ n8_; clear hb hbox hg; have hnb47 := NB250_237.out; have hnc47 := NB237_250.out; have hcz48_0 : w46.cell? ⟨gb250, 0, none⟩ = some (.int .i64 0) := (za BK250.out 0).trans rfl; have hcz48_1 : w46.cell? ⟨gb250, 1, none⟩ = some (.slice none 0 0) := (za BK250.out 1).trans rfl; have hfz48_0 := zb BK250.out 0; have hfz48_1 := zb BK250.out 1) | ((with_reducible refine ze (f := 30) rfl ?_); refine zv (some 34) rfl rfl Tryz.func30 (by kernel_rfl) rfl #[.agg #[.int .i64 a0, .slice Ao45 t247.length co45]] rfl sqM ?_; (with_reducible refine (qD.calls k1 a0 _ _ t247 false _ ?side1 ?side2 A15.out).mono ?_); (case side1 => refine (Kd.zg (e := 3) (base := w.heap.size) (ok := fun k_ => (True ∧ some k_ ≠ (.slice Ao43 x6_1.length co43 : Value).ownBlock)) (n := t247.length) (c := co45) ?_).2.2; exact (by refine sqR ?_; exact (Kd.zn (Kd.zp (p := ⟨gb250, 1, none⟩) (Kd.zp (p := ⟨gb250, 0, none⟩) (Kd.zz HO249.out BK250.out (by decide)) (fun _ hk => hk.2) (.int .i64 a0)) (fun _ hk => hk.2) (.slice Ao45 t247.length co45)) (fun _ h_ => h_.1)))); (case side2 => exact (Kd.zg HO249.out).2.1); rintro e w49 ⟨rfl, hb⟩; refine ⟨_, rfl, ?_⟩; have n0_ := Aside0.mk (Kd.zx (by refine sqR ?_; exact (Kd.zn (Kd.zp (p := ⟨gb250, 1, none⟩) (Kd.zp (p := ⟨gb250, 0, none⟩) (Kd.zz HO_6.out BK250.out (by decide)) (fun _ hk => hk.2) (.int .i64 a0)) (fun _ hk => hk.2) (.slice Ao45 t247.length co45)) (fun _ h_ => h_.1))) hb); have n1_ := Aside0.mk (Kd.zx (by refine sqR ?_; exact (Kd.zn (Kd.zp (p := ⟨gb250, 1, none⟩) (Kd.zp (p := ⟨gb250, 0, none⟩) (Kd.zz HO249.out BK250.out (by decide)) (fun _ hk => hk.2) (.int .i64 a0)) (fun _ hk => hk.2) (.slice Ao45 t247.length co45)) (fun _ h_ => h_.1))) hb); have n2_ := Aside0.mk (zd (g := gb237) (o := .cells #[.int .i64 0, .slice none 0 0] 24 (0, 0)) (by refine sqK ?_; refine z6 ?_ NB237_250.out _; refine sqK ?_; refine z6 ?_ NB237_250.out _; refine sqK ?_; exact BK237.out) hb); have n3_ := Aside0.mk (zd (g := gb250) (o := .cells #[.int .i64 a0, .slice Ao45 t247.length co45] 24 (0, 0)) (by refine sqK ?_; refine zF (cs := #[.int .i64 a0, .slice none 0 0]) ?_ 1 _ rfl; refine sqK ?_; refine zF (cs := #[.int .i64 0, .slice none 0 0]) ?_ 0 _ rfl; refine sqK ?_; exact BK250.out) hb); have n4_ := Aside0.mk (zc sqB hb); clear HO_6; clear HO249; clear BK237; clear BK250; clear HB; have HO_6 := n0_; have HO249 := n1_; have BK237 := n2_; have BK250 := n3_; have HB := n4_; clear n0_ n1_ n2_ n3_ n4_; (try clear hb); (try clear hb2); (try clear hk); (try clear hi); have hcz50_0 : w49.cell? ⟨gb237, 0, none⟩ = some (.int .i64 0) := (za BK237.out 0).trans rfl; have hcz50_1 : w49.cell? ⟨gb237, 1, none⟩ = some (.slice none 0 0) := (za BK237.out 1).trans rfl; have hfz50_0 := zb BK237.out 0; have hfz50_1 := zb BK237.out 1))
      refine bodyPost_ret (qz rfl _ _ gb237 24 #[.int .i64 0, .slice none 0 0] (0, 0) _ rfl (by refine sqK ?_; refine zF (cs := #[.int .i64 0, .slice none 0 0]) ?_ 1 _ rfl; refine sqK ?_; refine zF (cs := #[.int .i64 0, .slice none 0 0]) ?_ 0 _ rfl; refine sqK ?_; exact BK237.out) Tryz.underlying24 rfl (by kernel_rfl)) rfl ?_
      exact ⟨_, sqE, sqN, sqB⟩
 ·replace c4 := Bool.eq_false_iff.mpr c4
  subst c4
  have H1 : (some (0, ([] : List Int), false)) = some (r1, r2, r3) := by rw [if_neg (show ¬ (false = true) by decide)] at H; exact H
  clear H
  have H := H1
  clear H1
  simp only [Option.some.injEq, Prod.mk.injEq] at H
  obtain ⟨rfl, rfl, rfl⟩ := H
  go_enter Tryz.func15, Tryz.ntmps15
  go_wp2_with (first | ((with_reducible refine zm (N := 4) rfl ?_); refine zq ?hg (N := 4) ?hd (cs := #[.int .i64 0, .slice none 0 0]) (t := 24) ?hr ?_; (case hd => rfl); (case hg => rfl); (case hr => exact sqG); intro gb237 hg w51 hbox hb; have n0_ := Aside0.mk (zc sqB hb); have n1_ := Aside0.mk (hbox); have n2_ := Aside0.mk ((sqS hg : w.heap.size ≤ gb237)); have n3_ := Aside0.mk ((sqS hg : w.heap.size ≤ gb237)); clear HB; have HB := n0_; have BK237 := n1_; have GW237 := n2_; have GE237 := n3_; clear n0_ n1_ n2_ n3_; clear hb hbox hg) | ((with_reducible refine ze (f := 12) rfl ?_); refine zv (some 11) rfl rfl Tryz.func12 (by kernel_rfl) rfl #[.int .i64 a0, .slice A1 l1.length c1] rfl sqM ?_; (with_reducible refine (zS.calls k a0 _ _ l1 false _ ?side1 ?side2 A3.out).mono ?_); (case side1 => exact sqC (Kd.zt HR1.out HB.out)); (case side2 => exact HC1.out); rintro e w' ⟨rfl, ⟨nd, rfl⟩⟩; refine ⟨_, rfl, ?_⟩; (try (rw [qO w51]; generalize hq_ : World.drewN w51 _ = w51; have n0_ : Aside0 (w51.heap[gb237]? = some (.cells #[.int .i64 0, .slice none 0 0] 24 (0, 0))) := ⟨by rw [← hq_]; exact (sqK BK237.out)⟩; have n1_ : Aside0 (Below w.heap.size w w51) := ⟨by rw [← hq_]; exact sqB⟩; clear BK237 HB hq_; have BK237 := n0_; have HB := n1_; clear n0_ n1_; have hczqgb237_0 : w51.cell? ⟨gb237, 0, none⟩ = some (.int .i64 0) := (za BK237.out 0).trans rfl; have hfzqgb237_0 := zb BK237.out 0; have hczqgb237_1 : w51.cell? ⟨gb237, 1, none⟩ = some (.slice none 0 0) := (za BK237.out 1).trans rfl; have hfzqgb237_1 := zb BK237.out 1)); have hcz52_0 : w51.cell? ⟨gb237, 0, none⟩ = some (.int .i64 0) := (za BK237.out 0).trans rfl; have hcz52_1 : w51.cell? ⟨gb237, 1, none⟩ = some (.slice none 0 0) := (za BK237.out 1).trans rfl; have hfz52_0 := zb BK237.out 0; have hfz52_1 := zb BK237.out 1))
  refine bodyPost_ret (qz rfl _ _ gb237 24 #[.int .i64 0, .slice none 0 0] (0, 0) _ rfl (by refine sqK ?_; refine zF (cs := #[.int .i64 0, .slice none 0 0]) ?_ 1 _ rfl; refine sqK ?_; refine zF (cs := #[.int .i64 0, .slice none 0 0]) ?_ 0 _ rfl; refine sqK ?_; exact BK237.out) Tryz.underlying24 rfl (by kernel_rfl)) rfl ?_
  exact ⟨_, sqE, sqN, sqB⟩

end Go.Proofs.YteggmbhcnhbamaaGreat.F
end
section
namespace Go.Proofs.YteggmbhcnhbamaaGreat.F
open Go.RowKit Go.Proofs.YteggmbhcnhbamaaGreatW.PrintWords Go.Proofs.YteggmbhcnhbamaaGreatW.PrintLast Go.Proofs.YteggmbhcnhbamaaGreatW.PrintMore
attribute [local go_sem] jG jJ jZ jV jr jq jF jI   -- for this text's walks alone
set_option linter.unusedVariables false
set_option linter.unusedSimpArgs false

mutual
def zR.j0 : Nat → Int → List Int → Bool → Option (Int × List Int × Bool)
 | 0, _, _, _ => none
 | k + 1, x0, x1, x20 => if x20 = true then (some (0, ([] : List Int), false)) else (zR.l0 k x0 x1 (([] : List Int)) 0)
def zR.l0 : Nat → Int → List Int → List Int → Int → Option (Int × List Int × Bool)
 | 0, _, _, _, _ => none
 | k + 1, x0, x1, x6, x7 => if x7 < (x1.length : Int) then (if 0 ≤ x7 then ((qj.f x0).bind fun t280 => (if (rd x1 x7) = t280 then (zR.l0 k x0 x1 x6 (wrap64 (x7 + 1))) else (if x6.length < 17592186044416 then (zR.l0 k x0 x1 (x6 ++ [rd x1 x7]) (wrap64 (x7 + 1))) else (none)))) else (none)) else ((zA.f k x6).bind fun t285 => ((zB.f k x0 t285).bind fun bt288 => (if bt288.2.2 = true then ((qY.f k bt288.1 bt288.2.1).bind fun t294 => ((qe.f k t294 x1).bind fun t297 => (if t297 = true then (some (bt288.1, bt288.2.1, true)) else (some (0, ([] : List Int), false))))) else (some (0, ([] : List Int), false)))))
end
def zR.f (k : Nat) (a0 : Int) (l1 : List Int) : Option (Int × List Int × Bool) := (zS.f k a0 l1).bind fun t273 => (if t273 = true then ((qj.f a0).bind fun t274 => ((qd.f k l1 t274).bind fun t275 => (zR.j0 k a0 l1 (!t275)))) else (zR.j0 k a0 l1 true))
theorem zR.calls (k : Nat) (a0 : Int) (A1 : Option Addr) (c1 : Nat) (l1 : List Int) (r1 : Int) (r2 : List Int) (r3 : Bool) (w : World) (hr1 : Kd.C (Kd.int .i64) w A1 l1.length l1) (hc1 : l1.length ≤ c1) (h : zR.f k a0 l1 = some (r1, r2, r3)) :
  Calls Tryz.prog 4 #[.int .i64 a0, .slice A1 l1.length c1] w fun e w' => ∃ v1_ : Value, e = .returned (.tuple #[.agg #[.int .i64 r1, v1_], .bool r3]) ∧ Kd.R (Kd.int .i64) 3 w' w.heap.size (fun _ => True) v1_ r2 ∧ Below w.heap.size w w' := by
 have hu24 := Tryz.underlying24
 have HR1 := Aside0.mk hr1
 have HC1 := Aside0.mk hc1
 clear hr1 hc1
 have HB := Aside0.mk (Below.refl w.heap.size w)
 have H : ((zS.f k a0 l1).bind fun t273 => (if t273 = true then ((qj.f a0).bind fun t274 => ((qd.f k l1 t274).bind fun t275 => (zR.j0 k a0 l1 (!t275)))) else (zR.j0 k a0 l1 true))) = some (r1, r2, r3) := h
 clear h
 have HC3 := Aside0.mk H
 clear H
 go_enter Tryz.func4, Tryz.ntmps4
 go_upto_region 1 with (first | ((with_reducible refine zm (N := 4) rfl ?_); refine zq ?hg (N := 4) ?hd (cs := #[.int .i64 0, .slice none 0 0]) (t := 24) ?hr ?_; (case hd => rfl); (case hg => rfl); (case hr => exact sqG); intro gb272 hg w4 hbox hb; have n0_ := Aside0.mk (zc sqB hb); have n1_ := Aside0.mk (hbox); have n2_ := Aside0.mk ((sqS hg : w.heap.size ≤ gb272)); have n3_ := Aside0.mk ((sqS hg : w.heap.size ≤ gb272)); clear HB; have HB := n0_; have BK272 := n1_; have GW272 := n2_; have GE272 := n3_; clear n0_ n1_ n2_ n3_; clear hb hbox hg))
 repeat (go_quiet (first | ((with_reducible refine zm (N := 4) rfl ?_); refine zq ?hg (N := 4) ?hd (cs := #[.int .i64 0, .slice none 0 0]) (t := 24) ?hr ?_; (case hd => rfl); (case hg => rfl); (case hr => exact sqG); intro gb272 hg w4 hbox hb; have n0_ := Aside0.mk (zc sqB hb); have n1_ := Aside0.mk (hbox); have n2_ := Aside0.mk ((sqS hg : w.heap.size ≤ gb272)); have n3_ := Aside0.mk ((sqS hg : w.heap.size ≤ gb272)); clear HB; have HB := n0_; have BK272 := n1_; have GW272 := n2_; have GE272 := n3_; clear n0_ n1_ n2_ n3_; clear hb hbox hg)); go_upto_region 1 with (first | ((with_reducible refine zm (N := 4) rfl ?_); refine zq ?hg (N := 4) ?hd (cs := #[.int .i64 0, .slice none 0 0]) (t := 24) ?hr ?_; (case hd => rfl); (case hg => rfl); (case hr => exact sqG); intro gb272 hg w4 hbox hb; have n0_ := Aside0.mk (zc sqB hb); have n1_ := Aside0.mk (hbox); have n2_ := Aside0.mk ((sqS hg : w.heap.size ≤ gb272)); have n3_ := Aside0.mk ((sqS hg : w.heap.size ≤ gb272)); clear HB; have HB := n0_; have BK272 := n1_; have GW272 := n2_; have GE272 := n3_; clear n0_ n1_ n2_ n3_; clear hb hbox hg)))
 (try simp only [Act.put, List.setIfInBounds_toArray, List.set_cons_zero, List.set_cons_succ])
 go_cut [20] (fun v20 wc => ∃ (kq : Nat) (x20_2 : Bool), v20 = .bool x20_2 ∧ Aside0 (zR.j0 kq a0 l1 x20_2 = some (r1, r2, r3)) ∧ Aside0 (kq ≤ k) ∧ Aside0 (wc.heap[gb272]? = some (.cells #[.int .i64 0, (.slice none 0 0)] 24 (0, 0))) ∧ Aside0 (Below w.heap.size w wc))
 case first =>
  have H := HC3.out
  clear HC3
  replace H := Option.bind_eq_some_iff.mp H
  obtain ⟨t273, A50, H⟩ := H
  replace H : (if t273 = true then ((qj.f a0).bind fun t274 => ((qd.f k l1 t274).bind fun t275 => (zR.j0 k a0 l1 (!t275)))) else (zR.j0 k a0 l1 true)) = some (r1, r2, r3) := H
  have A5 := Aside0.mk A50
  clear A50
  by_cases c6 : t273 = true
  ·subst c6
   have H1 : ((qj.f a0).bind fun t274 => ((qd.f k l1 t274).bind fun t275 => (zR.j0 k a0 l1 (!t275)))) = some (r1, r2, r3) := by rw [if_pos rfl] at H; exact H
   clear H
   have H := H1
   clear H1
   replace H := Option.bind_eq_some_iff.mp H
   obtain ⟨t274, A70, H⟩ := H
   replace H : ((qd.f k l1 t274).bind fun t275 => (zR.j0 k a0 l1 (!t275))) = some (r1, r2, r3) := H
   have A7 := Aside0.mk A70
   clear A70
   replace H := Option.bind_eq_some_iff.mp H
   obtain ⟨t275, A80, H⟩ := H
   replace H : (zR.j0 k a0 l1 (!t275)) = some (r1, r2, r3) := H
   have A8 := Aside0.mk A80
   clear A80
   have H' := Aside0.mk H
   clear H
   go_wp2_with (first | (go_at_call 12; (try simp only [zi, zj]); (with_reducible refine (zS.calls k a0 _ _ l1 true _ ?side1 ?side2 A5.out).mono ?_); (case side1 => exact sqC (Kd.zt HR1.out HB.out)); (case side2 => exact HC1.out); rintro e w' ⟨rfl, ⟨nd, rfl⟩⟩; (try first | exact ⟨rfl, _, World.drewN_drewN _ _ _⟩ | exact ⟨rfl, _, Eq.trans (World.drewN_drewN _ _ _) (congrArg (World.drewN _) (Nat.add_assoc _ _ _))⟩)) | (go_at_call 14; (try simp only [zi, zj]); (with_reducible refine (qj.calls a0 t274 _ A7.out).mono ?_); rintro e w' ⟨rfl, ⟨nd, rfl⟩⟩; (try first | exact ⟨rfl, _, World.drewN_drewN _ _ _⟩ | exact ⟨rfl, _, Eq.trans (World.drewN_drewN _ _ _) (congrArg (World.drewN _) (Nat.add_assoc _ _ _))⟩)) | (go_at_call 13; (try simp only [zi, zj]); (with_reducible refine (qd.calls k _ _ l1 t274 t275 _ ?side1 ?side2 A8.out).mono ?_); (case side1 => exact sqC (Kd.zt HR1.out sqB)); (case side2 => exact HC1.out); rintro e w' ⟨rfl, ⟨nd, rfl⟩⟩; (try first | exact ⟨rfl, _, World.drewN_drewN _ _ _⟩ | exact ⟨rfl, _, Eq.trans (World.drewN_drewN _ _ _) (congrArg (World.drewN _) (Nat.add_assoc _ _ _))⟩)))
   repeat (go_quiet (first | (go_at_call 12; (try simp only [zi, zj]); (with_reducible refine (zS.calls k a0 _ _ l1 true _ ?side1 ?side2 A5.out).mono ?_); (case side1 => exact sqC (Kd.zt HR1.out HB.out)); (case side2 => exact HC1.out); rintro e w' ⟨rfl, ⟨nd, rfl⟩⟩; (try first | exact ⟨rfl, _, World.drewN_drewN _ _ _⟩ | exact ⟨rfl, _, Eq.trans (World.drewN_drewN _ _ _) (congrArg (World.drewN _) (Nat.add_assoc _ _ _))⟩)) | (go_at_call 14; (try simp only [zi, zj]); (with_reducible refine (qj.calls a0 t274 _ A7.out).mono ?_); rintro e w' ⟨rfl, ⟨nd, rfl⟩⟩; (try first | exact ⟨rfl, _, World.drewN_drewN _ _ _⟩ | exact ⟨rfl, _, Eq.trans (World.drewN_drewN _ _ _) (congrArg (World.drewN _) (Nat.add_assoc _ _ _))⟩)) | (go_at_call 13; (try simp only [zi, zj]); (with_reducible refine (qd.calls k _ _ l1 t274 t275 _ ?side1 ?side2 A8.out).mono ?_); (case side1 => exact sqC (Kd.zt HR1.out sqB)); (case side2 => exact HC1.out); rintro e w' ⟨rfl, ⟨nd, rfl⟩⟩; (try first | exact ⟨rfl, _, World.drewN_drewN _ _ _⟩ | exact ⟨rfl, _, Eq.trans (World.drewN_drewN _ _ _) (congrArg (World.drewN _) (Nat.add_assoc _ _ _))⟩))); try go_wp2_with (first | (go_at_call 12; (try simp only [zi, zj]); (with_reducible refine (zS.calls k a0 _ _ l1 true _ ?side1 ?side2 A5.out).mono ?_); (case side1 => exact sqC (Kd.zt HR1.out HB.out)); (case side2 => exact HC1.out); rintro e w' ⟨rfl, ⟨nd, rfl⟩⟩; (try first | exact ⟨rfl, _, World.drewN_drewN _ _ _⟩ | exact ⟨rfl, _, Eq.trans (World.drewN_drewN _ _ _) (congrArg (World.drewN _) (Nat.add_assoc _ _ _))⟩)) | (go_at_call 14; (try simp only [zi, zj]); (with_reducible refine (qj.calls a0 t274 _ A7.out).mono ?_); rintro e w' ⟨rfl, ⟨nd, rfl⟩⟩; (try first | exact ⟨rfl, _, World.drewN_drewN _ _ _⟩ | exact ⟨rfl, _, Eq.trans (World.drewN_drewN _ _ _) (congrArg (World.drewN _) (Nat.add_assoc _ _ _))⟩)) | (go_at_call 13; (try simp only [zi, zj]); (with_reducible refine (qd.calls k _ _ l1 t274 t275 _ ?side1 ?side2 A8.out).mono ?_); (case side1 => exact sqC (Kd.zt HR1.out sqB)); (case side2 => exact HC1.out); rintro e w' ⟨rfl, ⟨nd, rfl⟩⟩; (try first | exact ⟨rfl, _, World.drewN_drewN _ _ _⟩ | exact ⟨rfl, _, Eq.trans (World.drewN_drewN _ _ _) (congrArg (World.drewN _) (Nat.add_assoc _ _ _))⟩))))
   go_meet
   case rel => exact ⟨_, (!t275), (sqD), H', ⟨by first | omega | exact Nat.le_refl _⟩, ⟨sqK BK272.out⟩, ⟨sqB⟩⟩
  ·replace c6 := Bool.eq_false_iff.mpr c6
   subst c6
   have H1 : (zR.j0 k a0 l1 true) = some (r1, r2, r3) := by rw [if_neg (show ¬ (false = true) by decide)] at H; exact H
   clear H
   have H := H1
   clear H1
   have H' := Aside0.mk H
   clear H
   go_wp2_with (first | (go_at_call 12; (try simp only [zi, zj]); (with_reducible refine (zS.calls k a0 _ _ l1 false _ ?side1 ?side2 A5.out).mono ?_); (case side1 => exact sqC (Kd.zt HR1.out HB.out)); (case side2 => exact HC1.out); rintro e w' ⟨rfl, ⟨nd, rfl⟩⟩; (try first | exact ⟨rfl, _, World.drewN_drewN _ _ _⟩ | exact ⟨rfl, _, Eq.trans (World.drewN_drewN _ _ _) (congrArg (World.drewN _) (Nat.add_assoc _ _ _))⟩)))
   repeat (go_quiet (first | (go_at_call 12; (try simp only [zi, zj]); (with_reducible refine (zS.calls k a0 _ _ l1 false _ ?side1 ?side2 A5.out).mono ?_); (case side1 => exact sqC (Kd.zt HR1.out HB.out)); (case side2 => exact HC1.out); rintro e w' ⟨rfl, ⟨nd, rfl⟩⟩; (try first | exact ⟨rfl, _, World.drewN_drewN _ _ _⟩ | exact ⟨rfl, _, Eq.trans (World.drewN_drewN _ _ _) (congrArg (World.drewN _) (Nat.add_assoc _ _ _))⟩))); try go_wp2_with (first | (go_at_call 12; (try simp only [zi, zj]); (with_reducible refine (zS.calls k a0 _ _ l1 false _ ?side1 ?side2 A5.out).mono ?_); (case side1 => exact sqC (Kd.zt HR1.out HB.out)); (case side2 => exact HC1.out); rintro e w' ⟨rfl, ⟨nd, rfl⟩⟩; (try first | exact ⟨rfl, _, World.drewN_drewN _ _ _⟩ | exact ⟨rfl, _, Eq.trans (World.drewN_drewN _ _ _) (congrArg (World.drewN _) (Nat.add_assoc _ _ _))⟩))))
   go_meet
   case rel => exact ⟨_, (true), (sqD), H', ⟨by first | omega | exact Nat.le_refl _⟩, ⟨sqK BK272.out⟩, ⟨sqB⟩⟩
 case rest =>
  clear HC3
  try clear c1
  try clear p2
  try clear c4
  try clear c6
  obtain ⟨kq, x20_2, rfl, HA, HJ2, BK272, HB⟩ := hcut
  cases kq with
  | zero => exact absurd HA.out (by simp [zR.j0])
  | succ kj2 =>
   have H := HA.out
   clear HA
   simp only [zR.j0] at H
   by_cases c9 : x20_2 = true
   ·subst c9
    have H1 : (some (0, ([] : List Int), false)) = some (r1, r2, r3) := by rw [if_pos rfl] at H; exact H
    clear H
    have H := H1
    clear H1
    simp only [Option.some.injEq, Prod.mk.injEq] at H
    obtain ⟨rfl, rfl, rfl⟩ := H
    have hcz10_0 : wc.cell? ⟨gb272, 0, none⟩ = some (.int .i64 0) := (za BK272.out 0).trans rfl
    have hcz10_1 : wc.cell? ⟨gb272, 1, none⟩ = some (.slice none 0 0) := (za BK272.out 1).trans rfl
    have hfz10_0 := zb BK272.out 0
    have hfz10_1 := zb BK272.out 1
    go_wp2
    repeat (go_quiet (fail); try go_wp2)
    refine bodyPost_ret (qz rfl _ _ gb272 24 #[.int .i64 0, .slice none 0 0] (0, 0) _ rfl (by refine sqK ?_; refine zF (cs := #[.int .i64 0, .slice none 0 0]) ?_ 1 _ rfl; refine sqK ?_; refine zF (cs := #[.int .i64 0, .slice none 0 0]) ?_ 0 _ rfl; refine sqK ?_; exact BK272.out) Tryz.underlying24 rfl (by kernel_rfl)) rfl ?_
    exact ⟨_, sqE, sqN, sqB⟩
   ·replace c9 := Bool.eq_false_iff.mpr c9
    subst c9
    have H1 : (zR.l0 kj2 a0 l1 (([] : List Int)) 0) = some (r1, r2, r3) := by rw [if_neg (show ¬ (false = true) by decide)] at H; exact H
    clear H
    have H := H1
    clear H1
    obtain ⟨y276, hy276⟩ : ∃ y_ : List Int, y_ = (([] : List Int)) := ⟨_, rfl⟩
    replace H : (zR.l0 kj2 a0 l1 y276 0) = some (r1, r2, r3) := by first | (rw [hy276]; with_reducible exact H) | (have H2_ := (Option.bind_some _ _).symm.trans H; rw [hy276]; with_reducible exact H2_) | (have H2_ := (Option.bind_some _ _).symm.trans H; with_reducible exact H2_) | with_reducible exact H | (rw [hy276]; exact H) | exact H
    have Ny276 := Aside0.mk hy276
    clear hy276
    have H' := Aside0.mk H
    clear H
    go_wp2_with (first | ((with_reducible refine zm (N := 22) rfl ?_); refine Kd.jy (Kd.int .i64) _ 3 ?hg (N := 22) ?hd (xs := ([] : List Int)) (inner := []) (ok := fun _ => True) (okp := fun _ => True) ?hr ?hp (fun _ hk => hk) trivial (Below.refl _ _) (Nat.le_refl _) (by simp) ?_; (case hd => rfl); (case hg => rfl); (case hr => exact sqG); (case hp => exact (qK.none _ _)); intro v277 w11 ho12 hb hg_ hnew_; clear hg_ hnew_; (first | rw [← Ny276.out] at ho12 | (simp only [Int.reduceToNat] at ho12; rw [← Ny276.out] at ho12)); have n0_ := Aside0.mk (Kd.zD ho12 (zh sqB)); have n1_ := Aside0.mk (zd (g := gb272) (o := .cells #[.int .i64 0, .slice none 0 0] 24 (0, 0)) (sqK BK272.out) hb); have n2_ := Aside0.mk (zc sqB hb); clear BK272; clear HB; have HO278 := n0_; have BK272 := n1_; have HB := n2_; clear n0_ n1_ n2_; clear hb ho12))
    repeat (go_quiet (first | ((with_reducible refine zm (N := 22) rfl ?_); refine Kd.jy (Kd.int .i64) _ 3 ?hg (N := 22) ?hd (xs := ([] : List Int)) (inner := []) (ok := fun _ => True) (okp := fun _ => True) ?hr ?hp (fun _ hk => hk) trivial (Below.refl _ _) (Nat.le_refl _) (by simp) ?_; (case hd => rfl); (case hg => rfl); (case hr => exact sqG); (case hp => exact (qK.none _ _)); intro v277 w11 ho12 hb hg_ hnew_; clear hg_ hnew_; (first | rw [← Ny276.out] at ho12 | (simp only [Int.reduceToNat] at ho12; rw [← Ny276.out] at ho12)); have n0_ := Aside0.mk (Kd.zD ho12 (zh sqB)); have n1_ := Aside0.mk (zd (g := gb272) (o := .cells #[.int .i64 0, .slice none 0 0] 24 (0, 0)) (sqK BK272.out) hb); have n2_ := Aside0.mk (zc sqB hb); clear BK272; clear HB; have HO278 := n0_; have BK272 := n1_; have HB := n2_; clear n0_ n1_ n2_; clear hb ho12)); try go_wp2_with (first | ((with_reducible refine zm (N := 22) rfl ?_); refine Kd.jy (Kd.int .i64) _ 3 ?hg (N := 22) ?hd (xs := ([] : List Int)) (inner := []) (ok := fun _ => True) (okp := fun _ => True) ?hr ?hp (fun _ hk => hk) trivial (Below.refl _ _) (Nat.le_refl _) (by simp) ?_; (case hd => rfl); (case hg => rfl); (case hr => exact sqG); (case hp => exact (qK.none _ _)); intro v277 w11 ho12 hb hg_ hnew_; clear hg_ hnew_; (first | rw [← Ny276.out] at ho12 | (simp only [Int.reduceToNat] at ho12; rw [← Ny276.out] at ho12)); have n0_ := Aside0.mk (Kd.zD ho12 (zh sqB)); have n1_ := Aside0.mk (zd (g := gb272) (o := .cells #[.int .i64 0, .slice none 0 0] 24 (0, 0)) (sqK BK272.out) hb); have n2_ := Aside0.mk (zc sqB hb); clear BK272; clear HB; have HO278 := n0_; have BK272 := n1_; have HB := n2_; clear n0_ n1_ n2_; clear hb ho12)))
    go_loopg [6, 7] kj2 (fun kq v6 v7 w' => ∃ (x6_2 : List Int) (x7_2 : Int), v7 = .int .i64 x7_2 ∧ Aside0 (zR.l0 kq a0 l1 x6_2 x7_2 = some (r1, r2, r3)) ∧ Aside0 (kq ≤ kj2) ∧ Aside0 (Kd.R (Kd.int .i64) 3 w' w.heap.size (fun _ => True) v6 x6_2) ∧ Aside0 (w'.heap[gb272]? = some (.cells #[.int .i64 0, (.slice none 0 0)] 24 (0, 0))) ∧ Aside0 (Below w.heap.size w w'))
    case atStart => exact ⟨(y276), (0), (sqD), H', ⟨Nat.le_refl _⟩, ⟨sqR HO278.out⟩, ⟨sqK BK272.out⟩, ⟨sqB⟩⟩
    case round =>
     clear H'
     try clear c1
     try clear p2
     try clear c4
     try clear c6
     try clear c9
     try clear hcz10_0
     try clear hcz10_1
     try clear hfz10_0
     try clear hfz10_1
     try clear p2
     obtain ⟨x6_2, x7_2, rfl, HA, HK2, HO_6, BK272, HB⟩ := hrel
     cases gk with
     | zero => exact absurd HA.out (by simp [zR.l0])
     | succ k2 =>
      have H := HA.out
      clear HA
      simp only [zR.l0] at H
      by_cases c13 : x7_2 < (l1.length : Int)
      ·rw [if_pos c13] at H
       have c13b0 : decide (x7_2 < (l1.length : Int)) = true := decide_eq_true c13
       clear c13
       by_cases c14 : 0 ≤ x7_2
       ·rw [if_pos c14] at H
        have c14b0 : decide (0 ≤ x7_2) = true := decide_eq_true c14
        clear c14
        replace H := Option.bind_eq_some_iff.mp H
        obtain ⟨t280, A150, H⟩ := H
        replace H : (if (rd l1 x7_2) = t280 then (zR.l0 k2 a0 l1 x6_2 (wrap64 (x7_2 + 1))) else (if x6_2.length < 17592186044416 then (zR.l0 k2 a0 l1 (x6_2 ++ [rd l1 x7_2]) (wrap64 (x7_2 + 1))) else (none))) = some (r1, r2, r3) := H
        have A15 := Aside0.mk A150
        clear A150
        by_cases c16 : (rd l1 x7_2) = t280
        ·rw [if_pos c16] at H
         have c16b0 : ((rd l1 x7_2) == t280) = true := beq_iff_eq.mpr c16
         have c16b1 : ((rd l1 x7_2) != t280) = false := bne_eq_false_iff_eq.mpr c16
         clear c16
         have H' := Aside0.mk H
         clear H
         have p279 : 0 ≤ (x7_2 : Int) := of_decide_eq_true sqA
         have q279 : x7_2 < (l1.length : Int) := of_decide_eq_true sqA
         obtain ⟨ad279, e279, hx279_0⟩ := Kd.zT HR1.out x7_2 p279 q279
         cases e279
         replace hx279_0 := (HB.out.cell (World.block_lt_of_cell? w _ hx279_0)).trans hx279_0
         replace p279 := eq_true p279
         replace q279 := eq_true q279
         go_wp2_with (first | (go_at_call 14; (try simp only [zi, zj]); (with_reducible refine (qj.calls a0 t280 _ A15.out).mono ?_); rintro e w' ⟨rfl, ⟨nd, rfl⟩⟩; (try first | exact ⟨rfl, _, World.drewN_drewN _ _ _⟩ | exact ⟨rfl, _, Eq.trans (World.drewN_drewN _ _ _) (congrArg (World.drewN _) (Nat.add_assoc _ _ _))⟩)))
         repeat (go_quiet (first | (go_at_call 14; (try simp only [zi, zj]); (with_reducible refine (qj.calls a0 t280 _ A15.out).mono ?_); rintro e w' ⟨rfl, ⟨nd, rfl⟩⟩; (try first | exact ⟨rfl, _, World.drewN_drewN _ _ _⟩ | exact ⟨rfl, _, Eq.trans (World.drewN_drewN _ _ _) (congrArg (World.drewN _) (Nat.add_assoc _ _ _))⟩))); try go_wp2_with (first | (go_at_call 14; (try simp only [zi, zj]); (with_reducible refine (qj.calls a0 t280 _ A15.out).mono ?_); rintro e w' ⟨rfl, ⟨nd, rfl⟩⟩; (try first | exact ⟨rfl, _, World.drewN_drewN _ _ _⟩ | exact ⟨rfl, _, Eq.trans (World.drewN_drewN _ _ _) (congrArg (World.drewN _) (Nat.add_assoc _ _ _))⟩))))
         go_roundg k2
         case measure => have := HJ2.out; have := HK2.out; omega
         case rel => exact ⟨(x6_2), (wrap64 (x7_2 + 1)), (sqD), H', ⟨by have := HJ2.out; have := HK2.out; omega⟩, ⟨sqR HO_6.out⟩, ⟨sqK BK272.out⟩, ⟨sqB⟩⟩
        ·rw [if_neg c16] at H
         have c16b0 : ((rd l1 x7_2) == t280) = false := beq_eq_false_iff_ne.mpr c16
         have c16b1 : ((rd l1 x7_2) != t280) = true := bne_iff_ne.mpr c16
         by_cases c17 : x6_2.length < 17592186044416
         ·rw [if_pos c17] at H
          have LMc17 := Aside0.mk c17
          clear c17
          obtain ⟨y282, hy282⟩ : ∃ y_ : List Int, y_ = (x6_2 ++ [rd l1 x7_2]) := ⟨_, rfl⟩
          replace H : (zR.l0 k2 a0 l1 y282 (wrap64 (x7_2 + 1))) = some (r1, r2, r3) := by first | (rw [hy282]; with_reducible exact H) | (have H2_ := (Option.bind_some _ _).symm.trans H; rw [hy282]; with_reducible exact H2_) | (have H2_ := (Option.bind_some _ _).symm.trans H; with_reducible exact H2_) | with_reducible exact H | (rw [hy282]; exact H) | exact H
          have Ny282 := Aside0.mk hy282
          clear hy282
          have H' := Aside0.mk H
          clear H
          have p279 : 0 ≤ (x7_2 : Int) := of_decide_eq_true sqA
          have q279 : x7_2 < (l1.length : Int) := of_decide_eq_true sqA
          obtain ⟨ad279, e279, hx279_0⟩ := Kd.zT HR1.out x7_2 p279 q279
          cases e279
          replace hx279_0 := (HB.out.cell (World.block_lt_of_cell? w _ hx279_0)).trans hx279_0
          replace p279 := eq_true p279
          replace q279 := eq_true q279
          go_wp2_with (first | (go_at_call 14; (try simp only [zi, zj]); (with_reducible refine (qj.calls a0 t280 _ A15.out).mono ?_); rintro e w' ⟨rfl, ⟨nd, rfl⟩⟩; (try first | exact ⟨rfl, _, World.drewN_drewN _ _ _⟩ | exact ⟨rfl, _, Eq.trans (World.drewN_drewN _ _ _) (congrArg (World.drewN _) (Nat.add_assoc _ _ _))⟩); have p281 : 0 ≤ (x7_2 : Int) := of_decide_eq_true sqA; have q281 : x7_2 < (l1.length : Int) := of_decide_eq_true sqA; obtain ⟨ad281, e281, hx281_0⟩ := Kd.zT HR1.out x7_2 p281 q281; obtain rfl : ad279 = ad281 := (by injection e281); replace hx281_0 := (HB.out.cell (World.block_lt_of_cell? w _ hx281_0)).trans hx281_0; replace p281 := eq_true p281; replace q281 := eq_true q281) | ((with_reducible refine qB (b := .append) (xs := #[.tmp 36, .tmp 41]) rfl ?_); at_builtin; refine Kd.ji (Kd.int .i64) (w0 := w) w.heap.size rfl (.tmp 36) (.tmp 41) 22 3 (.int .i64 0) 8 rfl Tryz.underlying22 jH rfl (by decide) (by omega) u6 x6_2 (rd l1 x7_2) [.int .i64 (rd l1 x7_2)] (fun _ => True) (fun _ => False) rfl rfl ?aP (fun _ hk => hk.elim) ?aF ?aO ?aB ?aS ?aL ?_; (case aP => exact rfl); (case aB => exact sqB); (case aF => exact (fun _ _ => trivial)); (case aO => exact (sqR HO_6.out)); (case aS => exact (zh sqB)); (case aL => have := LMc17.out; omega); intro v283 w18 ho hb hg hat; rw [← Ny282.out] at ho; have n0_ := Aside0.mk (vz (g := gb272) (o := .cells #[.int .i64 0, .slice none 0 0] 24 (0, 0)) (sqK BK272.out) hg (Kd.Qt HO_6.out BK272.out (by decide))); have n1_ := Aside0.mk (hb); have n2_ := Aside0.mk (ho); clear BK272; clear HB; clear HO_6; have BK272 := n0_; have HB := n1_; have HO284 := n2_; clear n0_ n1_ n2_; clear ho hb hg hat))
          repeat (go_quiet (first | (go_at_call 14; (try simp only [zi, zj]); (with_reducible refine (qj.calls a0 t280 _ A15.out).mono ?_); rintro e w' ⟨rfl, ⟨nd, rfl⟩⟩; (try first | exact ⟨rfl, _, World.drewN_drewN _ _ _⟩ | exact ⟨rfl, _, Eq.trans (World.drewN_drewN _ _ _) (congrArg (World.drewN _) (Nat.add_assoc _ _ _))⟩); have p281 : 0 ≤ (x7_2 : Int) := of_decide_eq_true sqA; have q281 : x7_2 < (l1.length : Int) := of_decide_eq_true sqA; obtain ⟨ad281, e281, hx281_0⟩ := Kd.zT HR1.out x7_2 p281 q281; obtain rfl : ad279 = ad281 := (by injection e281); replace hx281_0 := (HB.out.cell (World.block_lt_of_cell? w _ hx281_0)).trans hx281_0; replace p281 := eq_true p281; replace q281 := eq_true q281) | ((with_reducible refine qB (b := .append) (xs := #[.tmp 36, .tmp 41]) rfl ?_); at_builtin; refine Kd.ji (Kd.int .i64) (w0 := w) w.heap.size rfl (.tmp 36) (.tmp 41) 22 3 (.int .i64 0) 8 rfl Tryz.underlying22 jH rfl (by decide) (by omega) u6 x6_2 (rd l1 x7_2) [.int .i64 (rd l1 x7_2)] (fun _ => True) (fun _ => False) rfl rfl ?aP (fun _ hk => hk.elim) ?aF ?aO ?aB ?aS ?aL ?_; (case aP => exact rfl); (case aB => exact sqB); (case aF => exact (fun _ _ => trivial)); (case aO => exact (sqR HO_6.out)); (case aS => exact (zh sqB)); (case aL => have := LMc17.out; omega); intro v283 w18 ho hb hg hat; rw [← Ny282.out] at ho; have n0_ := Aside0.mk (vz (g := gb272) (o := .cells #[.int .i64 0, .slice none 0 0] 24 (0, 0)) (sqK BK272.out) hg (Kd.Qt HO_6.out BK272.out (by decide))); have n1_ := Aside0.mk (hb); have n2_ := Aside0.mk (ho); clear BK272; clear HB; clear HO_6; have BK272 := n0_; have HB := n1_; have HO284 := n2_; clear n0_ n1_ n2_; clear ho hb hg hat)); try go_wp2_with (first | (go_at_call 14; (try simp only [zi, zj]); (with_reducible refine (qj.calls a0 t280 _ A15.out).mono ?_); rintro e w' ⟨rfl, ⟨nd, rfl⟩⟩; (try first | exact ⟨rfl, _, World.drewN_drewN _ _ _⟩ | exact ⟨rfl, _, Eq.trans (World.drewN_drewN _ _ _) (congrArg (World.drewN _) (Nat.add_assoc _ _ _))⟩); have p281 : 0 ≤ (x7_2 : Int) := of_decide_eq_true sqA; have q281 : x7_2 < (l1.length : Int) := of_decide_eq_true sqA; obtain ⟨ad281, e281, hx281_0⟩ := Kd.zT HR1.out x7_2 p281 q281; obtain rfl : ad279 = ad281 := (by injection e281); replace hx281_0 := (HB.out.cell (World.block_lt_of_cell? w _ hx281_0)).trans hx281_0; replace p281 := eq_true p281; replace q281 := eq_true q281) | ((with_reducible refine qB (b := .append) (xs := #[.tmp 36, .tmp 41]) rfl ?_); at_builtin; refine Kd.ji (Kd.int .i64) (w0 := w) w.heap.size rfl (.tmp 36) (.tmp 41) 22 3 (.int .i64 0) 8 rfl Tryz.underlying22 jH rfl (by decide) (by omega) u6 x6_2 (rd l1 x7_2) [.int .i64 (rd l1 x7_2)] (fun _ => True) (fun _ => False) rfl rfl ?aP (fun _ hk => hk.elim) ?aF ?aO ?aB ?aS ?aL ?_; (case aP => exact rfl); (case aB => exact sqB); (case aF => exact (fun _ _ => trivial)); (case aO => exact (sqR HO_6.out)); (case aS => exact (zh sqB)); (case aL => have := LMc17.out; omega); intro v283 w18 ho hb hg hat; rw [← Ny282.out] at ho; have n0_ := Aside0.mk (vz (g := gb272) (o := .cells #[.int .i64 0, .slice none 0 0] 24 (0, 0)) (sqK BK272.out) hg (Kd.Qt HO_6.out BK272.out (by decide))); have n1_ := Aside0.mk (hb); have n2_ := Aside0.mk (ho); clear BK272; clear HB; clear HO_6; have BK272 := n0_; have HB := n1_; have HO284 := n2_; clear n0_ n1_ n2_; clear ho hb hg hat)))
          go_roundg k2
          case measure => have := HJ2.out; have := HK2.out; omega
          case rel => exact ⟨(y282), (wrap64 (x7_2 + 1)), (sqD), H', ⟨by have := HJ2.out; have := HK2.out; omega⟩, ⟨sqR HO284.out⟩, ⟨sqK BK272.out⟩, ⟨sqB⟩⟩
         ·rw [if_neg c17] at H
          exact absurd H (by simp)
       ·rw [if_neg c14] at H
        exact absurd H (by simp)
      ·rw [if_neg c13] at H
       have c13b0 : decide (x7_2 < (l1.length : Int)) = false := decide_eq_false c13
       clear c13
       replace H := Option.bind_eq_some_iff.mp H
       obtain ⟨t285, A190, H⟩ := H
       replace H : ((zB.f k2 a0 t285).bind fun bt288 => (if bt288.2.2 = true then ((qY.f k2 bt288.1 bt288.2.1).bind fun t294 => ((qe.f k2 t294 l1).bind fun t297 => (if t297 = true then (some (bt288.1, bt288.2.1, true)) else (some (0, ([] : List Int), false))))) else (some (0, ([] : List Int), false)))) = some (r1, r2, r3) := H
       have A19 := Aside0.mk A190
       clear A190
       replace H := Option.bind_eq_some_iff.mp H
       obtain ⟨⟨t288, t289, t292⟩, A200, H⟩ := H
       replace H : (if t292 = true then ((qY.f k2 t288 t289).bind fun t294 => ((qe.f k2 t294 l1).bind fun t297 => (if t297 = true then (some (t288, t289, true)) else (some (0, ([] : List Int), false))))) else (some (0, ([] : List Int), false))) = some (r1, r2, r3) := H
       have A20 := Aside0.mk A200
       clear A200
       by_cases c21 : t292 = true
       ·subst c21
        have H1 : ((qY.f k2 t288 t289).bind fun t294 => ((qe.f k2 t294 l1).bind fun t297 => (if t297 = true then (some (t288, t289, true)) else (some (0, ([] : List Int), false))))) = some (r1, r2, r3) := by rw [if_pos rfl] at H; exact H
        clear H
        have H := H1
        clear H1
        replace H := Option.bind_eq_some_iff.mp H
        obtain ⟨t294, A220, H⟩ := H
        replace H : ((qe.f k2 t294 l1).bind fun t297 => (if t297 = true then (some (t288, t289, true)) else (some (0, ([] : List Int), false)))) = some (r1, r2, r3) := H
        have A22 := Aside0.mk A220
        clear A220
        replace H := Option.bind_eq_some_iff.mp H
        obtain ⟨t297, A230, H⟩ := H
        replace H : (if t297 = true then (some (t288, t289, true)) else (some (0, ([] : List Int), false))) = some (r1, r2, r3) := H
        have A23 := Aside0.mk A230
        clear A230
        by_cases c24 : t297 = true
        ·subst c24
         have H1 : (some (t288, t289, true)) = some (r1, r2, r3) := by rw [if_pos rfl] at H; exact H
         clear H
         have H := H1
         clear H1
         simp only [Option.some.injEq, Prod.mk.injEq] at H
         obtain ⟨rfl, rfl, rfl⟩ := H
         obtain ⟨Ao25, co25, eo25⟩ := Kd.zK HO_6.out
         subst eo25
         go_wp2_with (first | (go_at_call 16; (try simp only [zi, zj]); (with_reducible refine (zA.calls k2 _ _ x6_2 t285 _ ?side1 ?side2 A19.out).mono ?_); (case side1 => exact sqC (Kd.zg HO_6.out).2.2); (case side2 => exact (Kd.zg HO_6.out).2.1); rintro e w26 ⟨v286, rfl, ho0, hb⟩; have n0_ := Aside0.mk (Kd.zw (sqR HO_6.out) (Kd.zQ ho0) hb); have n1_ := Aside0.mk (Kd.zD (Kd.zP ho0 (Kd.qt (sqR HO_6.out))) (zh sqB)); have n2_ := Aside0.mk (zd (g := gb272) (o := .cells #[.int .i64 0, .slice none 0 0] 24 (0, 0)) (sqK BK272.out) hb); have n3_ := Aside0.mk (zc sqB hb); clear HO_6; clear BK272; clear HB; have HO_6 := n0_; have HO287 := n1_; have BK272 := n2_; have HB := n3_; clear n0_ n1_ n2_ n3_; (try clear hb); (try clear hb2); (try clear hk); (try clear hi); (try clear ho0); obtain ⟨Ao27, co27, eo27⟩ := Kd.zK HO287.out; subst eo27) | (go_at_call 15; (try simp only [zi, zj]); (with_reducible refine (zB.calls k2 a0 _ _ t285 t288 t289 true _ ?side1 ?side2 A20.out).mono ?_); (case side1 => exact sqC (Kd.zg HO287.out).2.2); (case side2 => exact (Kd.zg HO287.out).2.1); rintro e w28 ⟨v290, rfl, ho0, hb⟩; have n0_ := Aside0.mk (Kd.zw (sqR HO_6.out) (Kd.zQ ho0) hb); have n1_ := Aside0.mk (Kd.zw (sqR HO287.out) (Kd.zQ ho0) hb); have n2_ := Aside0.mk (Kd.zD (Kd.zP (Kd.zP ho0 (Kd.qt (sqR HO_6.out))) (Kd.qt (sqR HO287.out))) (zh sqB)); have n3_ := Aside0.mk (zd (g := gb272) (o := .cells #[.int .i64 0, .slice none 0 0] 24 (0, 0)) (sqK BK272.out) hb); have n4_ := Aside0.mk (zc sqB hb); clear HO_6; clear HO287; clear BK272; clear HB; have HO_6 := n0_; have HO287 := n1_; have HO291 := n2_; have BK272 := n3_; have HB := n4_; clear n0_ n1_ n2_ n3_ n4_; (try clear hb); (try clear hb2); (try clear hk); (try clear hi); (try clear ho0)) | ((with_reducible refine zm (N := 8) rfl ?_); refine zq ?hg (N := 8) ?hd (cs := #[.int .i64 0, .slice none 0 0]) (t := 24) ?hr ?_; (case hd => rfl); (case hg => rfl); (case hr => exact sqG); intro gb293 hg w29 hbox hb; have n0_ := Aside0.mk (Kd.zx (sqR HO_6.out) hb); have n1_ := Aside0.mk (Kd.zx (sqR HO287.out) hb); have n2_ := Aside0.mk (Kd.zx (sqR HO291.out) hb); have n3_ := Aside0.mk (zd (g := gb272) (o := .cells #[.int .i64 0, .slice none 0 0] 24 (0, 0)) (sqK BK272.out) hb); have n4_ := Aside0.mk (zc sqB hb); have n5_ := Aside0.mk (hbox); have n6_ := Aside0.mk ((sqS hg : w.heap.size ≤ gb293)); have n7_ := Aside0.mk ((sqS hg : w.heap.size ≤ gb293)); have n8_ := Aside0.mk ((by rw [hg]; exact Nat.ne_of_lt (zU (g := gb272) (o := .cells #[.int .i64 0, .slice none 0 0] 24 (0, 0)) (sqK BK272.out)) : gb272 ≠ gb293)); have n9_ := Aside0.mk ((by rw [hg]; exact Nat.ne_of_gt (zU (g := gb272) (o := .cells #[.int .i64 0, .slice none 0 0] 24 (0, 0)) (sqK BK272.out)) : gb293 ≠ gb272)); clear HO_6; clear HO287; clear HO291; clear BK272; clear HB; have HO_6 := n0_; have HO287 := n1_; have HO291 := n2_; have BK272 := n3_; have HB := n4_; have BK293 := n5_; have GW293 := n6_; have GE293 := n7_; have NB272_293 := n8_; have NB293_272 := n9_; clear n0_ n1_ n2_ n3_ n4_ n5_ n6_ n7_ n8_ n9_; clear hb hbox hg; have hnb30 := NB293_272.out; have hnc30 := NB272_293.out; have hcz31_0 : w29.cell? ⟨gb293, 0, none⟩ = some (.int .i64 0) := (za BK293.out 0).trans rfl; have hcz31_1 : w29.cell? ⟨gb293, 1, none⟩ = some (.slice none 0 0) := (za BK293.out 1).trans rfl; have hfz31_0 := zb BK293.out 0; have hfz31_1 := zb BK293.out 1; obtain ⟨Ao32, co32, eo32⟩ := Kd.zK HO291.out; subst eo32) | (go_at_call 18; (try simp only [zi, zj]); (with_reducible refine (qY.calls k2 t288 _ _ t289 t294 _ ?side1 ?side2 A22.out).mono ?_); (case side1 => refine (Kd.zg (e := 3) (base := w.heap.size) (ok := fun k_ => ((True ∧ some k_ ≠ (.slice Ao25 x6_2.length co25 : Value).ownBlock) ∧ some k_ ≠ (.slice Ao27 t285.length co27 : Value).ownBlock)) (n := t289.length) (c := co32) ?_).2.2; exact (by refine sqR ?_; exact (Kd.zn (Kd.zp (p := ⟨gb293, 1, none⟩) (Kd.zp (p := ⟨gb293, 0, none⟩) (Kd.zz HO291.out BK293.out (by decide)) (fun _ hk => hk.2) (.int .i64 t288)) (fun _ hk => hk.2) (.slice Ao32 t289.length co32)) (fun _ h_ => h_.1)))); (case side2 => exact (Kd.zg HO291.out).2.1); rintro e w33 ⟨v295, rfl, ho0, hb⟩; have n0_ := Aside0.mk (Kd.zw (by refine sqR ?_; exact (Kd.zn (Kd.zp (p := ⟨gb293, 1, none⟩) (Kd.zp (p := ⟨gb293, 0, none⟩) (Kd.zz HO_6.out BK293.out (by decide)) (fun _ hk => hk.2) (.int .i64 t288)) (fun _ hk => hk.2) (.slice Ao32 t289.length co32)) (fun _ h_ => h_.1))) (Kd.zQ ho0) hb); have n1_ := Aside0.mk (Kd.zw (by refine sqR ?_; exact (Kd.zn (Kd.zp (p := ⟨gb293, 1, none⟩) (Kd.zp (p := ⟨gb293, 0, none⟩) (Kd.zz HO287.out BK293.out (by decide)) (fun _ hk => hk.2) (.int .i64 t288)) (fun _ hk => hk.2) (.slice Ao32 t289.length co32)) (fun _ h_ => h_.1))) (Kd.zQ ho0) hb); have n2_ := Aside0.mk (Kd.zw (by refine sqR ?_; exact (Kd.zn (Kd.zp (p := ⟨gb293, 1, none⟩) (Kd.zp (p := ⟨gb293, 0, none⟩) (Kd.zz HO291.out BK293.out (by decide)) (fun _ hk => hk.2) (.int .i64 t288)) (fun _ hk => hk.2) (.slice Ao32 t289.length co32)) (fun _ h_ => h_.1))) (Kd.zQ ho0) hb); have n3_ := Aside0.mk (Kd.zD (Kd.zP (Kd.zP (Kd.zP ho0 (Kd.qt (by refine sqR ?_; exact (Kd.zn (Kd.zp (p := ⟨gb293, 1, none⟩) (Kd.zp (p := ⟨gb293, 0, none⟩) (Kd.zz HO_6.out BK293.out (by decide)) (fun _ hk => hk.2) (.int .i64 t288)) (fun _ hk => hk.2) (.slice Ao32 t289.length co32)) (fun _ h_ => h_.1))))) (Kd.qt (by refine sqR ?_; exact (Kd.zn (Kd.zp (p := ⟨gb293, 1, none⟩) (Kd.zp (p := ⟨gb293, 0, none⟩) (Kd.zz HO287.out BK293.out (by decide)) (fun _ hk => hk.2) (.int .i64 t288)) (fun _ hk => hk.2) (.slice Ao32 t289.length co32)) (fun _ h_ => h_.1))))) (Kd.qt (by refine sqR ?_; exact (Kd.zn (Kd.zp (p := ⟨gb293, 1, none⟩) (Kd.zp (p := ⟨gb293, 0, none⟩) (Kd.zz HO291.out BK293.out (by decide)) (fun _ hk => hk.2) (.int .i64 t288)) (fun _ hk => hk.2) (.slice Ao32 t289.length co32)) (fun _ h_ => h_.1))))) (zh sqB)); have n4_ := Aside0.mk (zd (g := gb272) (o := .cells #[.int .i64 0, .slice none 0 0] 24 (0, 0)) (by refine sqK ?_; refine z6 ?_ NB272_293.out _; refine sqK ?_; refine z6 ?_ NB272_293.out _; refine sqK ?_; exact BK272.out) hb); have n5_ := Aside0.mk (zd (g := gb293) (o := .cells #[.int .i64 t288, .slice Ao32 t289.length co32] 24 (0, 0)) (by refine sqK ?_; refine zF (cs := #[.int .i64 t288, .slice none 0 0]) ?_ 1 _ rfl; refine sqK ?_; refine zF (cs := #[.int .i64 0, .slice none 0 0]) ?_ 0 _ rfl; refine sqK ?_; exact BK293.out) hb); have n6_ := Aside0.mk (zc sqB hb); clear HO_6; clear HO287; clear HO291; clear BK272; clear BK293; clear HB; have HO_6 := n0_; have HO287 := n1_; have HO291 := n2_; have HO296 := n3_; have BK272 := n4_; have BK293 := n5_; have HB := n6_; clear n0_ n1_ n2_ n3_ n4_ n5_ n6_; (try clear hb); (try clear hb2); (try clear hk); (try clear hi); (try clear ho0); obtain ⟨Ao34, co34, eo34⟩ := Kd.zK HO296.out; subst eo34) | (go_at_call 17; (try simp only [zi, zj]); (with_reducible refine (qe.calls k2 _ _ t294 _ _ l1 true _ ?side1 ?side2 ?side3 ?side4 A23.out).mono ?_); (case side1 => exact sqC (Kd.zg HO296.out).2.2); (case side2 => exact (Kd.zg HO296.out).2.1); (case side3 => exact sqC (Kd.zt HR1.out HB.out)); (case side4 => exact HC1.out); rintro e w' ⟨rfl, ⟨nd, rfl⟩⟩; (try first | exact ⟨rfl, _, World.drewN_drewN _ _ _⟩ | exact ⟨rfl, _, Eq.trans (World.drewN_drewN _ _ _) (congrArg (World.drewN _) (Nat.add_assoc _ _ _))⟩); have hcz35_0 : w33.cell? ⟨gb293, 0, none⟩ = some (.int .i64 t288) := (za BK293.out 0).trans rfl; have hcz35_1 : w33.cell? ⟨gb293, 1, none⟩ = some (.slice Ao32 t289.length co32) := (za BK293.out 1).trans rfl; have hfz35_0 := zb BK293.out 0; have hfz35_1 := zb BK293.out 1; have hcz36_0 : w33.cell? ⟨gb272, 0, none⟩ = some (.int .i64 0) := (za BK272.out 0).trans rfl; have hcz36_1 : w33.cell? ⟨gb272, 1, none⟩ = some (.slice none 0 0) := (za BK272.out 1).trans rfl; have hfz36_0 := zb BK272.out 0; have hfz36_1 := zb BK272.out 1))
         repeat (go_quiet (first | (go_at_call 16; (try simp only [zi, zj]); (with_reducible refine (zA.calls k2 _ _ x6_2 t285 _ ?side1 ?side2 A19.out).mono ?_); (case side1 => exact sqC (Kd.zg HO_6.out).2.2); (case side2 => exact (Kd.zg HO_6.out).2.1); rintro e w26 ⟨v286, rfl, ho0, hb⟩; have n0_ := Aside0.mk (Kd.zw (sqR HO_6.out) (Kd.zQ ho0) hb); have n1_ := Aside0.mk (Kd.zD (Kd.zP ho0 (Kd.qt (sqR HO_6.out))) (zh sqB)); have n2_ := Aside0.mk (zd (g := gb272) (o := .cells #[.int .i64 0, .slice none 0 0] 24 (0, 0)) (sqK BK272.out) hb); have n3_ := Aside0.mk (zc sqB hb); clear HO_6; clear BK272; clear HB; have HO_6 := n0_; have HO287 := n1_; have BK272 := n2_; have HB := n3_; clear n0_ n1_ n2_ n3_; (try clear hb); (try clear hb2); (try clear hk); (try clear hi); (try clear ho0); obtain ⟨Ao27, co27, eo27⟩ := Kd.zK HO287.out; subst eo27) | (go_at_call 15; (try simp only [zi, zj]); (with_reducible refine (zB.calls k2 a0 _ _ t285 t288 t289 true _ ?side1 ?side2 A20.out).mono ?_); (case side1 => exact sqC (Kd.zg HO287.out).2.2); (case side2 => exact (Kd.zg HO287.out).2.1); rintro e w28 ⟨v290, rfl, ho0, hb⟩; have n0_ := Aside0.mk (Kd.zw (sqR HO_6.out) (Kd.zQ ho0) hb); have n1_ := Aside0.mk (Kd.zw (sqR HO287.out) (Kd.zQ ho0) hb); have n2_ := Aside0.mk (Kd.zD (Kd.zP (Kd.zP ho0 (Kd.qt (sqR HO_6.out))) (Kd.qt (sqR HO287.out))) (zh sqB)); have n3_ := Aside0.mk (zd (g := gb272) (o := .cells #[.int .i64 0, .slice none 0 0] 24 (0, 0)) (sqK BK272.out) hb); have n4_ := Aside0.mk (zc sqB hb); clear HO_6; clear HO287; clear BK272; clear HB; have HO_6 := n0_; have HO287 := n1_; have HO291 := n2_; have BK272 := n3_; have HB := n4_; clear n0_ n1_ n2_ n3_ n4_; (try clear hb); (try clear hb2); (try clear hk); (try clear hi); (try clear ho0)) | ((with_reducible refine zm (N := 8) rfl ?_); refine zq ?hg (N := 8) ?hd (cs := #[.int .i64 0, .slice none 0 0]) (t := 24) ?hr ?_; (case hd => rfl); (case hg => rfl); (case hr => exact sqG); intro gb293 hg w29 hbox hb; have n0_ := Aside0.mk (Kd.zx (sqR HO_6.out) hb); have n1_ := Aside0.mk (Kd.zx (sqR HO287.out) hb); have n2_ := Aside0.mk (Kd.zx (sqR HO291.out) hb); have n3_ := Aside0.mk (zd (g := gb272) (o := .cells #[.int .i64 0, .slice none 0 0] 24 (0, 0)) (sqK BK272.out) hb); have n4_ := Aside0.mk (zc sqB hb); have n5_ := Aside0.mk (hbox); have n6_ := Aside0.mk ((sqS hg : w.heap.size ≤ gb293)); have n7_ := Aside0.mk ((sqS hg : w.heap.size ≤ gb293)); have n8_ := Aside0.mk ((by rw [hg]; exact Nat.ne_of_lt (zU (g := gb272) (o := .cells #[.int .i64 0, .slice none 0 0] 24 (0, 0)) (sqK BK272.out)) : gb272 ≠ gb293)); have n9_ := Aside0.mk ((by rw [hg]; exact Nat.ne_of_gt (zU (g := gb272) (o := .cells #[.int .i64 0, .slice none 0 0] 24 (0, 0)) (sqK BK272.out)) : gb293 ≠ gb272)); clear HO_6; clear HO287; clear HO291; clear BK272; clear HB; have HO_6 := n0_; have HO287 := n1_; have HO291 := n2_; have BK272 := n3_; have HB := n4_; have BK293 := n5_; have GW293 := n6_; have GE293 := n7_; have NB272_293 := n8_; have NB293_272 := n9_; clear n0_ n1_ n2_ n3_ n4_ n5_ n6_ n7_ n8_ n9_; clear hb hbox hg; have hnb30 := NB293_272.out; have hnc30 := NB272_293.out; have hcz31_0 : w29.cell? ⟨gb293, 0, none⟩ = some (.int .i64 0) := (za BK293.out 0).trans rfl; have hcz31_1 : w29.cell? ⟨gb293, 1, none⟩ = some (.slice none 0 0) := (za BK293.out 1).trans rfl; have hfz31_0 := zb BK293.out 0; have hfz31_1 := zb BK293.out 1; obtain ⟨Ao32, co32, eo32⟩ := Kd.zK HO291.out; subst eo32) | (go_at_call 18; (try simp only [zi, zj]); (with_reducible refine (qY.calls k2 t288 _ _ t289 t294 _ ?side1 ?side2 A22.out).mono ?_); (case side1 => refine (Kd.zg (e := 3) (base := w.heap.size) (ok := fun k_ => ((True ∧ some k_ ≠ (.slice Ao25 x6_2.length co25 : Value).ownBlock) ∧ some k_ ≠ (.slice Ao27 t285.length co27 : Value).ownBlock)) (n := t289.length) (c := co32) ?_).2.2; exact (by refine sqR ?_; exact (Kd.zn (Kd.zp (p := ⟨gb293, 1, none⟩) (Kd.zp (p := ⟨gb293, 0, none⟩) (Kd.zz HO291.out BK293.out (by decide)) (fun _ hk => hk.2) (.int .i64 t288)) (fun _ hk => hk.2) (.slice Ao32 t289.length co32)) (fun _ h_ => h_.1)))); (case side2 => exact (Kd.zg HO291.out).2.1); rintro e w33 ⟨v295, rfl, ho0, hb⟩; have n0_ := Aside0.mk (Kd.zw (by refine sqR ?_; exact (Kd.zn (Kd.zp (p := ⟨gb293, 1, none⟩) (Kd.zp (p := ⟨gb293, 0, none⟩) (Kd.zz HO_6.out BK293.out (by decide)) (fun _ hk => hk.2) (.int .i64 t288)) (fun _ hk => hk.2) (.slice Ao32 t289.length co32)) (fun _ h_ => h_.1))) (Kd.zQ ho0) hb); have n1_ := Aside0.mk (Kd.zw (by refine sqR ?_; exact (Kd.zn (Kd.zp (p := ⟨gb293, 1, none⟩) (Kd.zp (p := ⟨gb293, 0, none⟩) (Kd.zz HO287.out BK293.out (by decide)) (fun _ hk => hk.2) (.int .i64 t288)) (fun _ hk => hk.2) (.slice Ao32 t289.length co32)) (fun _ h_ => h_.1))) (Kd.zQ ho0) hb); have n2_ := Aside0.mk (Kd.zw (by refine sqR ?_; exact (Kd.zn (Kd.zp (p := ⟨gb293, 1, none⟩) (Kd.zp (p := ⟨gb293, 0, none⟩) (Kd.zz HO291.out BK293.out (by decide)) (fun _ hk => hk.2) (.int .i64 t288)) (fun _ hk => hk.2) (.slice Ao32 t289.length co32)) (fun _ h_ => h_.1))) (Kd.zQ ho0) hb); have n3_ := Aside0.mk (Kd.zD (Kd.zP (Kd.zP (Kd.zP ho0 (Kd.qt (by refine sqR ?_; exact (Kd.zn (Kd.zp (p := ⟨gb293, 1, none⟩) (Kd.zp (p := ⟨gb293, 0, none⟩) (Kd.zz HO_6.out BK293.out (by decide)) (fun _ hk => hk.2) (.int .i64 t288)) (fun _ hk => hk.2) (.slice Ao32 t289.length co32)) (fun _ h_ => h_.1))))) (Kd.qt (by refine sqR ?_; exact (Kd.zn (Kd.zp (p := ⟨gb293, 1, none⟩) (Kd.zp (p := ⟨gb293, 0, none⟩) (Kd.zz HO287.out BK293.out (by decide)) (fun _ hk => hk.2) (.int .i64 t288)) (fun _ hk => hk.2) (.slice Ao32 t289.length co32)) (fun _ h_ => h_.1))))) (Kd.qt (by refine sqR ?_; exact (Kd.zn (Kd.zp (p := ⟨gb293, 1, none⟩) (Kd.zp (p := ⟨gb293, 0, none⟩) (Kd.zz HO291.out BK293.out (by decide)) (fun _ hk => hk.2) (.int .i64 t288)) (fun _ hk => hk.2) (.slice Ao32 t289.length co32)) (fun _ h_ => h_.1))))) (zh sqB)); have n4_ := Aside0.mk (zd (g := gb272) (o := .cells #[.int .i64 0, .slice none 0 0] 24 (0, 0)) (by refine sqK ?_; refine z6 ?_ NB272_293.out _; refine sqK ?_; refine z6 ?_ NB272_293.out _; refine sqK ?_; exact BK272.out) hb); have n5_ := Aside0.mk (zd (g := gb293) (o := .cells #[.int .i64 t288, .slice Ao32 t289.length co32] 24 (0, 0)) (by refine sqK ?_; refine zF (cs := #[.int .i64 t288, .slice none 0 0]) ?_ 1 _ rfl; refine sqK ?_; refine zF (cs := #[.int .i64 0, .slice none 0 0]) ?_ 0 _ rfl; refine sqK ?_; exact BK293.out) hb); have n6_ := Aside0.mk (zc sqB hb); clear HO_6; clear HO287; clear HO291; clear BK272; clear BK293; clear HB; have HO_6 := n0_; have HO287 := n1_; have HO291 := n2_; have HO296 := n3_; have BK272 := n4_; have BK293 := n5_; have HB := n6_; clear n0_ n1_ n2_ n3_ n4_ n5_ n6_; (try clear hb); (try clear hb2); (try clear hk); (try clear hi); (try clear ho0); obtain ⟨Ao34, co34, eo34⟩ := Kd.zK HO296.out; subst eo34) | (go_at_call 17; (try simp only [zi, zj]); (with_reducible refine (qe.calls k2 _ _ t294 _ _ l1 true _ ?side1 ?side2 ?side3 ?side4 A23.out).mono ?_); (case side1 => exact sqC (Kd.zg HO296.out).2.2); (case side2 => exact (Kd.zg HO296.out).2.1); (case side3 => exact sqC (Kd.zt HR1.out HB.out)); (case side4 => exact HC1.out); rintro e w' ⟨rfl, ⟨nd, rfl⟩⟩; (try first | exact ⟨rfl, _, World.drewN_drewN _ _ _⟩ | exact ⟨rfl, _, Eq.trans (World.drewN_drewN _ _ _) (congrArg (World.drewN _) (Nat.add_assoc _ _ _))⟩); have hcz35_0 : w33.cell? ⟨gb293, 0, none⟩ = some (.int .i64 t288) := (za BK293.out 0).trans rfl; have hcz35_1 : w33.cell? ⟨gb293, 1, none⟩ = some (.slice Ao32 t289.length co32) := (za BK293.out 1).trans rfl; have hfz35_0 := zb BK293.out 0; have hfz35_1 := zb BK293.out 1; have hcz36_0 : w33.cell? ⟨gb272, 0, none⟩ = some (.int .i64 0) := (za BK272.out 0).trans rfl; have hcz36_1 : w33.cell? ⟨gb272, 1, none⟩ = some (.slice none 0 0) := (za BK272.out 1).trans rfl; have hfz36_0 := zb BK272.out 0; have hfz36_1 := zb BK272.out 1)); try go_wp2_with (first | (go_at_call 16; (try simp only [zi, zj]); (with_reducible refine (zA.calls k2 _ _ x6_2 t285 _ ?side1 ?side2 A19.out).mono ?_); (case side1 => exact sqC (Kd.zg HO_6.out).2.2); (case side2 => exact (Kd.zg HO_6.out).2.1); rintro e w26 ⟨v286, rfl, ho0, hb⟩; have n0_ := Aside0.mk (Kd.zw (sqR HO_6.out) (Kd.zQ ho0) hb); have n1_ := Aside0.mk (Kd.zD (Kd.zP ho0 (Kd.qt (sqR HO_6.out))) (zh sqB)); have n2_ := Aside0.mk (zd (g := gb272) (o := .cells #[.int .i64 0, .slice none 0 0] 24 (0, 0)) (sqK BK272.out) hb); have n3_ := Aside0.mk (zc sqB hb); clear HO_6; clear BK272; clear HB; have HO_6 := n0_; have HO287 := n1_; have BK272 := n2_; have HB := n3_; clear n0_ n1_ n2_ n3_; (try clear hb); (try clear hb2); (try clear hk); (try clear hi); (try clear ho0); obtain ⟨Ao27, co27, eo27⟩ := Kd.zK HO287.out; subst eo27) | (go_at_call 15; (try simp only [zi, zj]); (with_reducible refine (zB.calls k2 a0 _ _ t285 t288 t289 true _ ?side1 ?side2 A20.out).mono ?_); (case side1 => exact sqC (Kd.zg HO287.out).2.2); (case side2 => exact (Kd.zg HO287.out).2.1); rintro e w28 ⟨v290, rfl, ho0, hb⟩; have n0_ := Aside0.mk (Kd.zw (sqR HO_6.out) (Kd.zQ ho0) hb); have n1_ := Aside0.mk (Kd.zw (sqR HO287.out) (Kd.zQ ho0) hb); have n2_ := Aside0.mk (Kd.zD (Kd.zP (Kd.zP ho0 (Kd.qt (sqR HO_6.out))) (Kd.qt (sqR HO287.out))) (zh sqB)); have n3_ := Aside0.mk (zd (g := gb272) (o := .cells #[.int .i64 0, .slice none 0 0] 24 (0, 0)) (sqK BK272.out) hb); have n4_ := Aside0.mk (zc sqB hb); clear HO_6; clear HO287; clear BK272; clear HB; have HO_6 := n0_; have HO287 := n1_; have HO291 := n2_; have BK272 := n3_; have HB := n4_; clear n0_ n1_ n2_ n3_ n4_; (try clear hb); (try clear hb2); (try clear hk); (try clear hi); (try clear ho0)) | ((with_reducible refine zm (N := 8) rfl ?_); refine zq ?hg (N := 8) ?hd (cs := #[.int .i64 0, .slice none 0 0]) (t := 24) ?hr ?_; (case hd => rfl); (case hg => rfl); (case hr => exact sqG); intro gb293 hg w29 hbox hb; have n0_ := Aside0.mk (Kd.zx (sqR HO_6.out) hb); have n1_ := Aside0.mk (Kd.zx (sqR HO287.out) hb); have n2_ := Aside0.mk (Kd.zx (sqR HO291.out) hb); have n3_ := Aside0.mk (zd (g := gb272) (o := .cells #[.int .i64 0, .slice none 0 0] 24 (0, 0)) (sqK BK272.out) hb); have n4_ := Aside0.mk (zc sqB hb); have n5_ := Aside0.mk (hbox); have n6_ := Aside0.mk ((sqS hg : w.heap.size ≤ gb293)); have n7_ := Aside0.mk ((sqS hg : w.heap.size ≤ gb293)); have n8_ := Aside0.mk ((by rw [hg]; exact Nat.ne_of_lt (zU (g := gb272) (o := .cells #[.int .i64 0, .slice none 0 0] 24 (0, 0)) (sqK BK272.out)) : gb272 ≠ gb293)); have n9_ := Aside0.mk ((by rw [hg]; exact Nat.ne_of_gt (zU (g := gb272) (o := .cells #[.int .i64 0, .slice none 0 0] 24 (0, 0)) (sqK BK272.out)) : gb293 ≠ gb272)); clear HO_6; clear HO287; clear HO291; clear BK272; clear HB; have HO_6 := n0_; have HO287 := n1_; have HO291 := n2_; have BK272 := n3_; have HB := n4_; have BK293 := n5_; have GW293 := n6_; have GE293 := n7_; have NB272_293 := n8_; have NB293_272 := n9_; clear n0_ n1_ n2_ n3_ n4_ n5_ n6_ n7_ n8_ n9_; clear hb hbox hg; have hnb30 := NB293_272.out; have hnc30 := NB272_293.out; have hcz31_0 : w29.cell? ⟨gb293, 0, none⟩ = some (.int .i64 0) := (za BK293.out 0).trans rfl; have hcz31_1 : w29.cell? ⟨gb293, 1, none⟩ = some (.slice none 0 0) := (za BK293.out 1).trans rfl; have hfz31_0 := zb BK293.out 0; have hfz31_1 := zb BK293.out 1; obtain ⟨Ao32, co32, eo32⟩ := Kd.zK HO291.out; subst eo32) | (go_at_call 18; (try simp only [zi, zj]); (with_reducible refine (qY.calls k2 t288 _ _ t289 t294 _ ?side1 ?side2 A22.out).mono ?_); (case side1 => refine (Kd.zg (e := 3) (base := w.heap.size) (ok := fun k_ => ((True ∧ some k_ ≠ (.slice Ao25 x6_2.length co25 : Value).ownBlock) ∧ some k_ ≠ (.slice Ao27 t285.length co27 : Value).ownBlock)) (n := t289.length) (c := co32) ?_).2.2; exact (by refine sqR ?_; exact (Kd.zn (Kd.zp (p := ⟨gb293, 1, none⟩) (Kd.zp (p := ⟨gb293, 0, none⟩) (Kd.zz HO291.out BK293.out (by decide)) (fun _ hk => hk.2) (.int .i64 t288)) (fun _ hk => hk.2) (.slice Ao32 t289.length co32)) (fun _ h_ => h_.1)))); (case side2 => exact (Kd.zg HO291.out).2.1); rintro e w33 ⟨v295, rfl, ho0, hb⟩; have n0_ := Aside0.mk (Kd.zw (by refine sqR ?_; exact (Kd.zn (Kd.zp (p := ⟨gb293, 1, none⟩) (Kd.zp (p := ⟨gb293, 0, none⟩) (Kd.zz HO_6.out BK293.out (by decide)) (fun _ hk => hk.2) (.int .i64 t288)) (fun _ hk => hk.2) (.slice Ao32 t289.length co32)) (fun _ h_ => h_.1))) (Kd.zQ ho0) hb); have n1_ := Aside0.mk (Kd.zw (by refine sqR ?_; exact (Kd.zn (Kd.zp (p := ⟨gb293, 1, none⟩) (Kd.zp (p := ⟨gb293, 0, none⟩) (Kd.zz HO287.out BK293.out (by decide)) (fun _ hk => hk.2) (.int .i64 t288)) (fun _ hk => hk.2) (.slice Ao32 t289.length co32)) (fun _ h_ => h_.1))) (Kd.zQ ho0) hb); have n2_ := Aside0.mk (Kd.zw (by refine sqR ?_; exact (Kd.zn (Kd.zp (p := ⟨gb293, 1, none⟩) (Kd.zp (p := ⟨gb293, 0, none⟩) (Kd.zz HO291.out BK293.out (by decide)) (fun _ hk => hk.2) (.int .i64 t288)) (fun _ hk => hk.2) (.slice Ao32 t289.length co32)) (fun _ h_ => h_.1))) (Kd.zQ ho0) hb); have n3_ := Aside0.mk (Kd.zD (Kd.zP (Kd.zP (Kd.zP ho0 (Kd.qt (by refine sqR ?_; exact (Kd.zn (Kd.zp (p := ⟨gb293, 1, none⟩) (Kd.zp (p := ⟨gb293, 0, none⟩) (Kd.zz HO_6.out BK293.out (by decide)) (fun _ hk => hk.2) (.int .i64 t288)) (fun _ hk => hk.2) (.slice Ao32 t289.length co32)) (fun _ h_ => h_.1))))) (Kd.qt (by refine sqR ?_; exact (Kd.zn (Kd.zp (p := ⟨gb293, 1, none⟩) (Kd.zp (p := ⟨gb293, 0, none⟩) (Kd.zz HO287.out BK293.out (by decide)) (fun _ hk => hk.2) (.int .i64 t288)) (fun _ hk => hk.2) (.slice Ao32 t289.length co32)) (fun _ h_ => h_.1))))) (Kd.qt (by refine sqR ?_; exact (Kd.zn (Kd.zp (p := ⟨gb293, 1, none⟩) (Kd.zp (p := ⟨gb293, 0, none⟩) (Kd.zz HO291.out BK293.out (by decide)) (fun _ hk => hk.2) (.int .i64 t288)) (fun _ hk => hk.2) (.slice Ao32 t289.length co32)) (fun _ h_ => h_.1))))) (zh sqB)); have n4_ := Aside0.mk (zd (g := gb272) (o := .cells #[.int .i64 0, .slice none 0 0] 24 (0, 0)) (by refine sqK ?_; refine z6 ?_ NB272_293.out _; refine sqK ?_; refine z6 ?_ NB272_293.out _; refine sqK ?_; exact BK272.out) hb); have n5_ := Aside0.mk (zd (g := gb293) (o := .cells #[.int .i64 t288, .slice Ao32 t289.length co32] 24 (0, 0)) (by refine sqK ?_; refine zF (cs := #[.int .i64 t288, .slice none 0 0]) ?_ 1 _ rfl; refine sqK ?_; refine zF (cs := #[.int .i64 0, .slice none 0 0]) ?_ 0 _ rfl; refine sqK ?_; exact BK293.out) hb); have n6_ := Aside0.mk (zc sqB hb); clear HO_6; clear HO287; clear HO291; clear BK272; clear BK293; clear HB; have HO_6 := n0_; have HO287 := n1_; have HO291 := n2_; have HO296 := n3_; have BK272 := n4_; have BK293 := n5_; have HB := n6_; clear n0_ n1_ n2_ n3_ n4_ n5_ n6_; (try clear hb); (try clear hb2); (try clear hk); (try clear hi); (try clear ho0); obtain ⟨Ao34, co34, eo34⟩ := Kd.zK HO296.out; subst eo34) | (go_at_call 17; (try simp only [zi, zj]); (with_reducible refine (qe.calls k2 _ _ t294 _ _ l1 true _ ?side1 ?side2 ?side3 ?side4 A23.out).mono ?_); (case side1 => exact sqC (Kd.zg HO296.out).2.2); (case side2 => exact (Kd.zg HO296.out).2.1); (case side3 => exact sqC (Kd.zt HR1.out HB.out)); (case side4 => exact HC1.out); rintro e w' ⟨rfl, ⟨nd, rfl⟩⟩; (try first | exact ⟨rfl, _, World.drewN_drewN _ _ _⟩ | exact ⟨rfl, _, Eq.trans (World.drewN_drewN _ _ _) (congrArg (World.drewN _) (Nat.add_assoc _ _ _))⟩); have hcz35_0 : w33.cell? ⟨gb293, 0, none⟩ = some (.int .i64 t288) := (za BK293.out 0).trans rfl; have hcz35_1 : w33.cell? ⟨gb293, 1, none⟩ = some (.slice Ao32 t289.length co32) := (za BK293.out 1).trans rfl; have hfz35_0 := zb BK293.out 0; have hfz35_1 := zb BK293.out 1; have hcz36_0 : w33.cell? ⟨gb272, 0, none⟩ = some (.int .i64 0) := (za BK272.out 0).trans rfl; have hcz36_1 : w33.cell? ⟨gb272, 1, none⟩ = some (.slice none 0 0) := (za BK272.out 1).trans rfl; have hfz36_0 := zb BK272.out 0; have hfz36_1 := zb BK272.out 1)))
         refine bodyPost_ret (qz rfl _ _ gb272 24 #[.int .i64 t288, .slice Ao32 t289.length co32] (0, 0) _ rfl (by refine sqK ?_; refine zF (cs := #[.int .i64 t288, .slice none 0 0]) ?_ 1 _ rfl; refine sqK ?_; refine zF (cs := #[.int .i64 0, .slice none 0 0]) ?_ 0 _ rfl; refine sqK ?_; exact BK272.out) Tryz.underlying24 rfl (by kernel_rfl)) rfl ?_
         exact ⟨_, sqE, by refine sqR ?_; exact Kd.zn (Kd.zp (p := ⟨gb272, 1, none⟩) (Kd.zp (p := ⟨gb272, 0, none⟩) (Kd.zz HO291.out BK272.out (by decide)) (fun _ hk => hk.2) (.int .i64 t288)) (fun _ hk => hk.2) (.slice Ao32 t289.length co32)) (fun _ hk => trivial), sqB⟩
        ·replace c24 := Bool.eq_false_iff.mpr c24
         subst c24
         have H1 : (some (0, ([] : List Int), false)) = some (r1, r2, r3) := by rw [if_neg (show ¬ (false = true) by decide)] at H; exact H
         clear H
         have H := H1
         clear H1
         simp only [Option.some.injEq, Prod.mk.injEq] at H
         obtain ⟨rfl, rfl, rfl⟩ := H
         obtain ⟨Ao37, co37, eo37⟩ := Kd.zK HO_6.out
         subst eo37
         go_wp2_with (first | (go_at_call 16; (try simp only [zi, zj]); (with_reducible refine (zA.calls k2 _ _ x6_2 t285 _ ?side1 ?side2 A19.out).mono ?_); (case side1 => exact sqC (Kd.zg HO_6.out).2.2); (case side2 => exact (Kd.zg HO_6.out).2.1); rintro e w38 ⟨v286, rfl, ho0, hb⟩; have n0_ := Aside0.mk (Kd.zw (sqR HO_6.out) (Kd.zQ ho0) hb); have n1_ := Aside0.mk (Kd.zD (Kd.zP ho0 (Kd.qt (sqR HO_6.out))) (zh sqB)); have n2_ := Aside0.mk (zd (g := gb272) (o := .cells #[.int .i64 0, .slice none 0 0] 24 (0, 0)) (sqK BK272.out) hb); have n3_ := Aside0.mk (zc sqB hb); clear HO_6; clear BK272; clear HB; have HO_6 := n0_; have HO287 := n1_; have BK272 := n2_; have HB := n3_; clear n0_ n1_ n2_ n3_; (try clear hb); (try clear hb2); (try clear hk); (try clear hi); (try clear ho0); obtain ⟨Ao39, co39, eo39⟩ := Kd.zK HO287.out; subst eo39) | (go_at_call 15; (try simp only [zi, zj]); (with_reducible refine (zB.calls k2 a0 _ _ t285 t288 t289 true _ ?side1 ?side2 A20.out).mono ?_); (case side1 => exact sqC (Kd.zg HO287.out).2.2); (case side2 => exact (Kd.zg HO287.out).2.1); rintro e w40 ⟨v290, rfl, ho0, hb⟩; have n0_ := Aside0.mk (Kd.zw (sqR HO_6.out) (Kd.zQ ho0) hb); have n1_ := Aside0.mk (Kd.zw (sqR HO287.out) (Kd.zQ ho0) hb); have n2_ := Aside0.mk (Kd.zD (Kd.zP (Kd.zP ho0 (Kd.qt (sqR HO_6.out))) (Kd.qt (sqR HO287.out))) (zh sqB)); have n3_ := Aside0.mk (zd (g := gb272) (o := .cells #[.int .i64 0, .slice none 0 0] 24 (0, 0)) (sqK BK272.out) hb); have n4_ := Aside0.mk (zc sqB hb); clear HO_6; clear HO287; clear BK272; clear HB; have HO_6 := n0_; have HO287 := n1_; have HO291 := n2_; have BK272 := n3_; have HB := n4_; clear n0_ n1_ n2_ n3_ n4_; (try clear hb); (try clear hb2); (try clear hk); (try clear hi); (try clear ho0)) | ((with_reducible refine zm (N := 8) rfl ?_); refine zq ?hg (N := 8) ?hd (cs := #[.int .i64 0, .slice none 0 0]) (t := 24) ?hr ?_; (case hd => rfl); (case hg => rfl); (case hr => exact sqG); intro gb293 hg w41 hbox hb; have n0_ := Aside0.mk (Kd.zx (sqR HO_6.out) hb); have n1_ := Aside0.mk (Kd.zx (sqR HO287.out) hb); have n2_ := Aside0.mk (Kd.zx (sqR HO291.out) hb); have n3_ := Aside0.mk (zd (g := gb272) (o := .cells #[.int .i64 0, .slice none 0 0] 24 (0, 0)) (sqK BK272.out) hb); have n4_ := Aside0.mk (zc sqB hb); have n5_ := Aside0.mk (hbox); have n6_ := Aside0.mk ((sqS hg : w.heap.size ≤ gb293)); have n7_ := Aside0.mk ((sqS hg : w.heap.size ≤ gb293)); have n8_ := Aside0.mk ((by rw [hg]; exact Nat.ne_of_lt (zU (g := gb272) (o := .cells #[.int .i64 0, .slice none 0 0] 24 (0, 0)) (sqK BK272.out)) : gb272 ≠ gb293)); have n9_ := Aside0.mk ((by rw [hg]; exact Nat.ne_of_gt (zU (g := gb272) (o := .cells #[.int .i64 0, .slice none 0 0] 24 (0, 0)) (sqK BK272.out)) : gb293 ≠ gb272)); clear HO_6; clear HO287; clear HO291; clear BK272; clear HB; have HO_6 := n0_; have HO287 := n1_; have HO291 := n2_; have BK272 := n3_; have HB := n4_; have BK293 := n5_; have GW293 := n6_; have GE293 := n7_; have NB272_293 := n8_; have NB293_272 := n9_; clear n0_ n1_ n2_ n3_ n4_ n5_ n6_ n7_ n8_ n9_; clear hb hbox hg; have hnb42 := NB293_272.out; have hnc42 := NB272_293.out; have hcz43_0 : w41.cell? ⟨gb293, 0, none⟩ = some (.int .i64 0) := (za BK293.out 0).trans rfl; have hcz43_1 : w41.cell? ⟨gb293, 1, none⟩ = some (.slice none 0 0) := (za BK293.out 1).trans rfl; have hfz43_0 := zb BK293.out 0; have hfz43_1 := zb BK293.out 1; obtain ⟨Ao44, co44, eo44⟩ := Kd.zK HO291.out; subst eo44) | (go_at_call 18; (try simp only [zi, zj]); (with_reducible refine (qY.calls k2 t288 _ _ t289 t294 _ ?side1 ?side2 A22.out).mono ?_); (case side1 => refine (Kd.zg (e := 3) (base := w.heap.size) (ok := fun k_ => ((True ∧ some k_ ≠ (.slice Ao37 x6_2.length co37 : Value).ownBlock) ∧ some k_ ≠ (.slice Ao39 t285.length co39 : Value).ownBlock)) (n := t289.length) (c := co44) ?_).2.2; exact (by refine sqR ?_; exact (Kd.zn (Kd.zp (p := ⟨gb293, 1, none⟩) (Kd.zp (p := ⟨gb293, 0, none⟩) (Kd.zz HO291.out BK293.out (by decide)) (fun _ hk => hk.2) (.int .i64 t288)) (fun _ hk => hk.2) (.slice Ao44 t289.length co44)) (fun _ h_ => h_.1)))); (case side2 => exact (Kd.zg HO291.out).2.1); rintro e w45 ⟨v295, rfl, ho0, hb⟩; have n0_ := Aside0.mk (Kd.zw (by refine sqR ?_; exact (Kd.zn (Kd.zp (p := ⟨gb293, 1, none⟩) (Kd.zp (p := ⟨gb293, 0, none⟩) (Kd.zz HO_6.out BK293.out (by decide)) (fun _ hk => hk.2) (.int .i64 t288)) (fun _ hk => hk.2) (.slice Ao44 t289.length co44)) (fun _ h_ => h_.1))) (Kd.zQ ho0) hb); have n1_ := Aside0.mk (Kd.zw (by refine sqR ?_; exact (Kd.zn (Kd.zp (p := ⟨gb293, 1, none⟩) (Kd.zp (p := ⟨gb293, 0, none⟩) (Kd.zz HO287.out BK293.out (by decide)) (fun _ hk => hk.2) (.int .i64 t288)) (fun _ hk => hk.2) (.slice Ao44 t289.length co44)) (fun _ h_ => h_.1))) (Kd.zQ ho0) hb); have n2_ := Aside0.mk (Kd.zw (by refine sqR ?_; exact (Kd.zn (Kd.zp (p := ⟨gb293, 1, none⟩) (Kd.zp (p := ⟨gb293, 0, none⟩) (Kd.zz HO291.out BK293.out (by decide)) (fun _ hk => hk.2) (.int .i64 t288)) (fun _ hk => hk.2) (.slice Ao44 t289.length co44)) (fun _ h_ => h_.1))) (Kd.zQ ho0) hb); have n3_ := Aside0.mk (Kd.zD (Kd.zP (Kd.zP (Kd.zP ho0 (Kd.qt (by refine sqR ?_; exact (Kd.zn (Kd.zp (p := ⟨gb293, 1, none⟩) (Kd.zp (p := ⟨gb293, 0, none⟩) (Kd.zz HO_6.out BK293.out (by decide)) (fun _ hk => hk.2) (.int .i64 t288)) (fun _ hk => hk.2) (.slice Ao44 t289.length co44)) (fun _ h_ => h_.1))))) (Kd.qt (by refine sqR ?_; exact (Kd.zn (Kd.zp (p := ⟨gb293, 1, none⟩) (Kd.zp (p := ⟨gb293, 0, none⟩) (Kd.zz HO287.out BK293.out (by decide)) (fun _ hk => hk.2) (.int .i64 t288)) (fun _ hk => hk.2) (.slice Ao44 t289.length co44)) (fun _ h_ => h_.1))))) (Kd.qt (by refine sqR ?_; exact (Kd.zn (Kd.zp (p := ⟨gb293, 1, none⟩) (Kd.zp (p := ⟨gb293, 0, none⟩) (Kd.zz HO291.out BK293.out (by decide)) (fun _ hk => hk.2) (.int .i64 t288)) (fun _ hk => hk.2) (.slice Ao44 t289.length co44)) (fun _ h_ => h_.1))))) (zh sqB)); have n4_ := Aside0.mk (zd (g := gb272) (o := .cells #[.int .i64 0, .slice none 0 0] 24 (0, 0)) (by refine sqK ?_; refine z6 ?_ NB272_293.out _; refine sqK ?_; refine z6 ?_ NB272_293.out _; refine sqK ?_; exact BK272.out) hb); have n5_ := Aside0.mk (zd (g := gb293) (o := .cells #[.int .i64 t288, .slice Ao44 t289.length co44] 24 (0, 0)) (by refine sqK ?_; refine zF (cs := #[.int .i64 t288, .slice none 0 0]) ?_ 1 _ rfl; refine sqK ?_; refine zF (cs := #[.int .i64 0, .slice none 0 0]) ?_ 0 _ rfl; refine sqK ?_; exact BK293.out) hb); have n6_ := Aside0.mk (zc sqB hb); clear HO_6; clear HO287; clear HO291; clear BK272; clear BK293; clear HB; have HO_6 := n0_; have HO287 := n1_; have HO291 := n2_; have HO296 := n3_; have BK272 := n4_; have BK293 := n5_; have HB := n6_; clear n0_ n1_ n2_ n3_ n4_ n5_ n6_; (try clear hb); (try clear hb2); (try clear hk); (try clear hi); (try clear ho0); obtain ⟨Ao46, co46, eo46⟩ := Kd.zK HO296.out; subst eo46) | (go_at_call 17; (try simp only [zi, zj]); (with_reducible refine (qe.calls k2 _ _ t294 _ _ l1 false _ ?side1 ?side2 ?side3 ?side4 A23.out).mono ?_); (case side1 => exact sqC (Kd.zg HO296.out).2.2); (case side2 => exact (Kd.zg HO296.out).2.1); (case side3 => exact sqC (Kd.zt HR1.out HB.out)); (case side4 => exact HC1.out); rintro e w' ⟨rfl, ⟨nd, rfl⟩⟩; (try first | exact ⟨rfl, _, World.drewN_drewN _ _ _⟩ | exact ⟨rfl, _, Eq.trans (World.drewN_drewN _ _ _) (congrArg (World.drewN _) (Nat.add_assoc _ _ _))⟩); have hcz47_0 : w45.cell? ⟨gb272, 0, none⟩ = some (.int .i64 0) := (za BK272.out 0).trans rfl; have hcz47_1 : w45.cell? ⟨gb272, 1, none⟩ = some (.slice none 0 0) := (za BK272.out 1).trans rfl; have hfz47_0 := zb BK272.out 0; have hfz47_1 := zb BK272.out 1))
         repeat (go_quiet (first | (go_at_call 16; (try simp only [zi, zj]); (with_reducible refine (zA.calls k2 _ _ x6_2 t285 _ ?side1 ?side2 A19.out).mono ?_); (case side1 => exact sqC (Kd.zg HO_6.out).2.2); (case side2 => exact (Kd.zg HO_6.out).2.1); rintro e w38 ⟨v286, rfl, ho0, hb⟩; have n0_ := Aside0.mk (Kd.zw (sqR HO_6.out) (Kd.zQ ho0) hb); have n1_ := Aside0.mk (Kd.zD (Kd.zP ho0 (Kd.qt (sqR HO_6.out))) (zh sqB)); have n2_ := Aside0.mk (zd (g := gb272) (o := .cells #[.int .i64 0, .slice none 0 0] 24 (0, 0)) (sqK BK272.out) hb); have n3_ := Aside0.mk (zc sqB hb); clear HO_6; clear BK272; clear HB; have HO_6 := n0_; have HO287 := n1_; have BK272 := n2_; have HB := n3_; clear n0_ n1_ n2_ n3_; (try clear hb); (try clear hb2); (try clear hk); (try clear hi); (try clear ho0); obtain ⟨Ao39, co39, eo39⟩ := Kd.zK HO287.out; subst eo39) | (go_at_call 15; (try simp only [zi, zj]); (with_reducible refine (zB.calls k2 a0 _ _ t285 t288 t289 true _ ?side1 ?side2 A20.out).mono ?_); (case side1 => exact sqC (Kd.zg HO287.out).2.2); (case side2 => exact (Kd.zg HO287.out).2.1); rintro e w40 ⟨v290, rfl, ho0, hb⟩; have n0_ := Aside0.mk (Kd.zw (sqR HO_6.out) (Kd.zQ ho0) hb); have n1_ := Aside0.mk (Kd.zw (sqR HO287.out) (Kd.zQ ho0) hb); have n2_ := Aside0.mk (Kd.zD (Kd.zP (Kd.zP ho0 (Kd.qt (sqR HO_6.out))) (Kd.qt (sqR HO287.out))) (zh sqB)); have n3_ := Aside0.mk (zd (g := gb272) (o := .cells #[.int .i64 0, .slice none 0 0] 24 (0, 0)) (sqK BK272.out) hb); have n4_ := Aside0.mk (zc sqB hb); clear HO_6; clear HO287; clear BK272; clear HB; have HO_6 := n0_; have HO287 := n1_; have HO291 := n2_; have BK272 := n3_; have HB := n4_; clear n0_ n1_ n2_ n3_ n4_; (try clear hb); (try clear hb2); (try clear hk); (try clear hi); (try clear ho0)) | ((with_reducible refine zm (N := 8) rfl ?_); refine zq ?hg (N := 8) ?hd (cs := #[.int .i64 0, .slice none 0 0]) (t := 24) ?hr ?_; (case hd => rfl); (case hg => rfl); (case hr => exact sqG); intro gb293 hg w41 hbox hb; have n0_ := Aside0.mk (Kd.zx (sqR HO_6.out) hb); have n1_ := Aside0.mk (Kd.zx (sqR HO287.out) hb); have n2_ := Aside0.mk (Kd.zx (sqR HO291.out) hb); have n3_ := Aside0.mk (zd (g := gb272) (o := .cells #[.int .i64 0, .slice none 0 0] 24 (0, 0)) (sqK BK272.out) hb); have n4_ := Aside0.mk (zc sqB hb); have n5_ := Aside0.mk (hbox); have n6_ := Aside0.mk ((sqS hg : w.heap.size ≤ gb293)); have n7_ := Aside0.mk ((sqS hg : w.heap.size ≤ gb293)); have n8_ := Aside0.mk ((by rw [hg]; exact Nat.ne_of_lt (zU (g := gb272) (o := .cells #[.int .i64 0, .slice none 0 0] 24 (0, 0)) (sqK BK272.out)) : gb272 ≠ gb293)); have n9_ := Aside0.mk ((by rw [hg]; exact Nat.ne_of_gt (zU (g := gb272) (o := .cells #[.int .i64 0, .slice none 0 0] 24 (0, 0)) (sqK BK272.out)) : gb293 ≠ gb272)); clear HO_6; clear HO287; clear HO291; clear BK272; clear HB; have HO_6 := n0_; have HO287 := n1_; have HO291 := n2_; have BK272 := n3_; have HB := n4_; have BK293 := n5_; have GW293 := n6_; have GE293 := n7_; have NB272_293 := n8_; have NB293_272 := n9_; clear n0_ n1_ n2_ n3_ n4_ n5_ n6_ n7_ n8_ n9_; clear hb hbox hg; have hnb42 := NB293_272.out; have hnc42 := NB272_293.out; have hcz43_0 : w41.cell? ⟨gb293, 0, none⟩ = some (.int .i64 0) := (za BK293.out 0).trans rfl; have hcz43_1 : w41.cell? ⟨gb293, 1, none⟩ = some (.slice none 0 0) := (za BK293.out 1).trans rfl; have hfz43_0 := zb BK293.out 0; have hfz43_1 := zb BK293.out 1; obtain ⟨Ao44, co44, eo44⟩ := Kd.zK HO291.out; subst eo44) | (go_at_call 18; (try simp only [zi, zj]); (with_reducible refine (qY.calls k2 t288 _ _ t289 t294 _ ?side1 ?side2 A22.out).mono ?_); (case side1 => refine (Kd.zg (e := 3) (base := w.heap.size) (ok := fun k_ => ((True ∧ some k_ ≠ (.slice Ao37 x6_2.length co37 : Value).ownBlock) ∧ some k_ ≠ (.slice Ao39 t285.length co39 : Value).ownBlock)) (n := t289.length) (c := co44) ?_).2.2; exact (by refine sqR ?_; exact (Kd.zn (Kd.zp (p := ⟨gb293, 1, none⟩) (Kd.zp (p := ⟨gb293, 0, none⟩) (Kd.zz HO291.out BK293.out (by decide)) (fun _ hk => hk.2) (.int .i64 t288)) (fun _ hk => hk.2) (.slice Ao44 t289.length co44)) (fun _ h_ => h_.1)))); (case side2 => exact (Kd.zg HO291.out).2.1); rintro e w45 ⟨v295, rfl, ho0, hb⟩; have n0_ := Aside0.mk (Kd.zw (by refine sqR ?_; exact (Kd.zn (Kd.zp (p := ⟨gb293, 1, none⟩) (Kd.zp (p := ⟨gb293, 0, none⟩) (Kd.zz HO_6.out BK293.out (by decide)) (fun _ hk => hk.2) (.int .i64 t288)) (fun _ hk => hk.2) (.slice Ao44 t289.length co44)) (fun _ h_ => h_.1))) (Kd.zQ ho0) hb); have n1_ := Aside0.mk (Kd.zw (by refine sqR ?_; exact (Kd.zn (Kd.zp (p := ⟨gb293, 1, none⟩) (Kd.zp (p := ⟨gb293, 0, none⟩) (Kd.zz HO287.out BK293.out (by decide)) (fun _ hk => hk.2) (.int .i64 t288)) (fun _ hk => hk.2) (.slice Ao44 t289.length co44)) (fun _ h_ => h_.1))) (Kd.zQ ho0) hb); have n2_ := Aside0.mk (Kd.zw (by refine sqR ?_; exact (Kd.zn (Kd.zp (p := ⟨gb293, 1, none⟩) (Kd.zp (p := ⟨gb293, 0, none⟩) (Kd.zz HO291.out BK293.out (by decide)) (fun _ hk => hk.2) (.int .i64 t288)) (fun _ hk => hk.2) (.slice Ao44 t289.length co44)) (fun _ h_ => h_.1))) (Kd.zQ ho0) hb); have n3_ := Aside0.mk (Kd.zD (Kd.zP (Kd.zP (Kd.zP ho0 (Kd.qt (by refine sqR ?_; exact (Kd.zn (Kd.zp (p := ⟨gb293, 1, none⟩) (Kd.zp (p := ⟨gb293, 0, none⟩) (Kd.zz HO_6.out BK293.out (by decide)) (fun _ hk => hk.2) (.int .i64 t288)) (fun _ hk => hk.2) (.slice Ao44 t289.length co44)) (fun _ h_ => h_.1))))) (Kd.qt (by refine sqR ?_; exact (Kd.zn (Kd.zp (p := ⟨gb293, 1, none⟩) (Kd.zp (p := ⟨gb293, 0, none⟩) (Kd.zz HO287.out BK293.out (by decide)) (fun _ hk => hk.2) (.int .i64 t288)) (fun _ hk => hk.2) (.slice Ao44 t289.length co44)) (fun _ h_ => h_.1))))) (Kd.qt (by refine sqR ?_; exact (Kd.zn (Kd.zp (p := ⟨gb293, 1, none⟩) (Kd.zp (p := ⟨gb293, 0, none⟩) (Kd.zz HO291.out BK293.out (by decide)) (fun _ hk => hk.2) (.int .i64 t288)) (fun _ hk => hk.2) (.slice Ao44 t289.length co44)) (fun _ h_ => h_.1))))) (zh sqB)); have n4_ := Aside0.mk (zd (g := gb272) (o := .cells #[.int .i64 0, .slice none 0 0] 24 (0, 0)) (by refine sqK ?_; refine z6 ?_ NB272_293.out _; refine sqK ?_; refine z6 ?_ NB272_293.out _; refine sqK ?_; exact BK272.out) hb); have n5_ := Aside0.mk (zd (g := gb293) (o := .cells #[.int .i64 t288, .slice Ao44 t289.length co44] 24 (0, 0)) (by refine sqK ?_; refine zF (cs := #[.int .i64 t288, .slice none 0 0]) ?_ 1 _ rfl; refine sqK ?_; refine zF (cs := #[.int .i64 0, .slice none 0 0]) ?_ 0 _ rfl; refine sqK ?_; exact BK293.out) hb); have n6_ := Aside0.mk (zc sqB hb); clear HO_6; clear HO287; clear HO291; clear BK272; clear BK293; clear HB; have HO_6 := n0_; have HO287 := n1_; have HO291 := n2_; have HO296 := n3_; have BK272 := n4_; have BK293 := n5_; have HB := n6_; clear n0_ n1_ n2_ n3_ n4_ n5_ n6_; (try clear hb); (try clear hb2); (try clear hk); (try clear hi); (try clear ho0); obtain ⟨Ao46, co46, eo46⟩ := Kd.zK HO296.out; subst eo46) | (go_at_call 17; (try simp only [zi, zj]); (with_reducible refine (qe.calls k2 _ _ t294 _ _ l1 false _ ?side1 ?side2 ?side3 ?side4 A23.out).mono ?_); (case side1 => exact sqC (Kd.zg HO296.out).2.2); (case side2 => exact (Kd.zg HO296.out).2.1); (case side3 => exact sqC (Kd.zt HR1.out HB.out)); (case side4 => exact HC1.out); rintro e w' ⟨rfl, ⟨nd, rfl⟩⟩; (try first | exact ⟨rfl, _, World.drewN_drewN _ _ _⟩ | exact ⟨rfl, _, Eq.trans (World.drewN_drewN _ _ _) (congrArg (World.drewN _) (Nat.add_assoc _ _ _))⟩); have hcz47_0 : w45.cell? ⟨gb272, 0, none⟩ = some (.int .i64 0) := (za BK272.out 0).trans rfl; have hcz47_1 : w45.cell? ⟨gb272, 1, none⟩ = some (.slice none 0 0) := (za BK272.out 1).trans rfl; have hfz47_0 := zb BK272.out 0; have hfz47_1 := zb BK272.out 1)); try go_wp2_with (first | (go_at_call 16; (try simp only [zi, zj]); (with_reducible refine (zA.calls k2 _ _ x6_2 t285 _ ?side1 ?side2 A19.out).mono ?_); (case side1 => exact sqC (Kd.zg HO_6.out).2.2); (case side2 => exact (Kd.zg HO_6.out).2.1); rintro e w38 ⟨v286, rfl, ho0, hb⟩; have n0_ := Aside0.mk (Kd.zw (sqR HO_6.out) (Kd.zQ ho0) hb); have n1_ := Aside0.mk (Kd.zD (Kd.zP ho0 (Kd.qt (sqR HO_6.out))) (zh sqB)); have n2_ := Aside0.mk (zd (g := gb272) (o := .cells #[.int .i64 0, .slice none 0 0] 24 (0, 0)) (sqK BK272.out) hb); have n3_ := Aside0.mk (zc sqB hb); clear HO_6; clear BK272; clear HB; have HO_6 := n0_; have HO287 := n1_; have BK272 := n2_; have HB := n3_; clear n0_ n1_ n2_ n3_; (try clear hb); (try clear hb2); (try clear hk); (try clear hi); (try clear ho0); obtain ⟨Ao39, co39, eo39⟩ := Kd.zK HO287.out; subst eo39) | (go_at_call 15; (try simp only [zi, zj]); (with_reducible refine (zB.calls k2 a0 _ _ t285 t288 t289 true _ ?side1 ?side2 A20.out).mono ?_); (case side1 => exact sqC (Kd.zg HO287.out).2.2); (case side2 => exact (Kd.zg HO287.out).2.1); rintro e w40 ⟨v290, rfl, ho0, hb⟩; have n0_ := Aside0.mk (Kd.zw (sqR HO_6.out) (Kd.zQ ho0) hb); have n1_ := Aside0.mk (Kd.zw (sqR HO287.out) (Kd.zQ ho0) hb); have n2_ := Aside0.mk (Kd.zD (Kd.zP (Kd.zP ho0 (Kd.qt (sqR HO_6.out))) (Kd.qt (sqR HO287.out))) (zh sqB)); have n3_ := Aside0.mk (zd (g := gb272) (o := .cells #[.int .i64 0, .slice none 0 0] 24 (0, 0)) (sqK BK272.out) hb); have n4_ := Aside0.mk (zc sqB hb); clear HO_6; clear HO287; clear BK272; clear HB; have HO_6 := n0_; have HO287 := n1_; have HO291 := n2_; have BK272 := n3_; have HB := n4_; clear n0_ n1_ n2_ n3_ n4_; (try clear hb); (try clear hb2); (try clear hk); (try clear hi); (try clear ho0)) | ((with_reducible refine zm (N := 8) rfl ?_); refine zq ?hg (N := 8) ?hd (cs := #[.int .i64 0, .slice none 0 0]) (t := 24) ?hr ?_; (case hd => rfl); (case hg => rfl); (case hr => exact sqG); intro gb293 hg w41 hbox hb; have n0_ := Aside0.mk (Kd.zx (sqR HO_6.out) hb); have n1_ := Aside0.mk (Kd.zx (sqR HO287.out) hb); have n2_ := Aside0.mk (Kd.zx (sqR HO291.out) hb); have n3_ := Aside0.mk (zd (g := gb272) (o := .cells #[.int .i64 0, .slice none 0 0] 24 (0, 0)) (sqK BK272.out) hb); have n4_ := Aside0.mk (zc sqB hb); have n5_ := Aside0.mk (hbox); have n6_ := Aside0.mk ((sqS hg : w.heap.size ≤ gb293)); have n7_ := Aside0.mk ((sqS hg : w.heap.size ≤ gb293)); have n8_ := Aside0.mk ((by rw [hg]; exact Nat.ne_of_lt (zU (g := gb272) (o := .cells #[.int .i64 0, .slice none 0 0] 24 (0, 0)) (sqK BK272.out)) : gb272 ≠ gb293)); have n9_ := Aside0.mk ((by rw [hg]; exact Nat.ne_of_gt (zU (g := gb272) (o := .cells #[.int .i64 0, .slice none 0 0] 24 (0, 0)) (sqK BK272.out)) : gb293 ≠ gb272)); clear HO_6; clear HO287; clear HO291; clear BK272; clear HB; have HO_6 := n0_; have HO287 := n1_; have HO291 := n2_; have BK272 := n3_; have HB := n4_; have BK293 := n5_; have GW293 := n6_; have GE293 := n7_; have NB272_293 := n8_; have NB293_272 := n9_; clear n0_ n1_ n2_ n3_ n4_ n5_ n6_ n7_ n8_ n9_; clear hb hbox hg; have hnb42 := NB293_272.out; have hnc42 := NB272_293.out; have hcz43_0 : w41.cell? ⟨gb293, 0, none⟩ = some (.int .i64 0) := (za BK293.out 0).trans rfl; have hcz43_1 : w41.cell? ⟨gb293, 1, none⟩ = some (.slice none 0 0) := (za BK293.out 1).trans rfl; have hfz43_0 := zb BK293.out 0; have hfz43_1 := zb BK293.out 1; obtain ⟨Ao44, co44, eo44⟩ := Kd.zK HO291.out; subst eo44) | (go_at_call 18; (try simp only [zi, zj]); (with_reducible refine (qY.calls k2 t288 _ _ t289 t294 _ ?side1 ?side2 A22.out).mono ?_); (case side1 => refine (Kd.zg (e := 3) (base := w.heap.size) (ok := fun k_ => ((True ∧ some k_ ≠ (.slice Ao37 x6_2.length co37 : Value).ownBlock) ∧ some k_ ≠ (.slice Ao39 t285.length co39 : Value).ownBlock)) (n := t289.length) (c := co44) ?_).2.2; exact (by refine sqR ?_; exact (Kd.zn (Kd.zp (p := ⟨gb293, 1, none⟩) (Kd.zp (p := ⟨gb293, 0, none⟩) (Kd.zz HO291.out BK293.out (by decide)) (fun _ hk => hk.2) (.int .i64 t288)) (fun _ hk => hk.2) (.slice Ao44 t289.length co44)) (fun _ h_ => h_.1)))); (case side2 => exact (Kd.zg HO291.out).2.1); rintro e w45 ⟨v295, rfl, ho0, hb⟩; have n0_ := Aside0.mk (Kd.zw (by refine sqR ?_; exact (Kd.zn (Kd.zp (p := ⟨gb293, 1, none⟩) (Kd.zp (p := ⟨gb293, 0, none⟩) (Kd.zz HO_6.out BK293.out (by decide)) (fun _ hk => hk.2) (.int .i64 t288)) (fun _ hk => hk.2) (.slice Ao44 t289.length co44)) (fun _ h_ => h_.1))) (Kd.zQ ho0) hb); have n1_ := Aside0.mk (Kd.zw (by refine sqR ?_; exact (Kd.zn (Kd.zp (p := ⟨gb293, 1, none⟩) (Kd.zp (p := ⟨gb293, 0, none⟩) (Kd.zz HO287.out BK293.out (by decide)) (fun _ hk => hk.2) (.int .i64 t288)) (fun _ hk => hk.2) (.slice Ao44 t289.length co44)) (fun _ h_ => h_.1))) (Kd.zQ ho0) hb); have n2_ := Aside0.mk (Kd.zw (by refine sqR ?_; exact (Kd.zn (Kd.zp (p := ⟨gb293, 1, none⟩) (Kd.zp (p := ⟨gb293, 0, none⟩) (Kd.zz HO291.out BK293.out (by decide)) (fun _ hk => hk.2) (.int .i64 t288)) (fun _ hk => hk.2) (.slice Ao44 t289.length co44)) (fun _ h_ => h_.1))) (Kd.zQ ho0) hb); have n3_ := Aside0.mk (Kd.zD (Kd.zP (Kd.zP (Kd.zP ho0 (Kd.qt (by refine sqR ?_; exact (Kd.zn (Kd.zp (p := ⟨gb293, 1, none⟩) (Kd.zp (p := ⟨gb293, 0, none⟩) (Kd.zz HO_6.out BK293.out (by decide)) (fun _ hk => hk.2) (.int .i64 t288)) (fun _ hk => hk.2) (.slice Ao44 t289.length co44)) (fun _ h_ => h_.1))))) (Kd.qt (by refine sqR ?_; exact (Kd.zn (Kd.zp (p := ⟨gb293, 1, none⟩) (Kd.zp (p := ⟨gb293, 0, none⟩) (Kd.zz HO287.out BK293.out (by decide)) (fun _ hk => hk.2) (.int .i64 t288)) (fun _ hk => hk.2) (.slice Ao44 t289.length co44)) (fun _ h_ => h_.1))))) (Kd.qt (by refine sqR ?_; exact (Kd.zn (Kd.zp (p := ⟨gb293, 1, none⟩) (Kd.zp (p := ⟨gb293, 0, none⟩) (Kd.zz HO291.out BK293.out (by decide)) (fun _ hk => hk.2) (.int .i64 t288)) (fun _ hk => hk.2) (.slice Ao44 t289.length co44)) (fun _ h_ => h_.1))))) (zh sqB)); have n4_ := Aside0.mk (zd (g := gb272) (o := .cells #[.int .i64 0, .slice none 0 0] 24 (0, 0)) (by refine sqK ?_; refine z6 ?_ NB272_293.out _; refine sqK ?_; refine z6 ?_ NB272_293.out _; refine sqK ?_; exact BK272.out) hb); have n5_ := Aside0.mk (zd (g := gb293) (o := .cells #[.int .i64 t288, .slice Ao44 t289.length co44] 24 (0, 0)) (by refine sqK ?_; refine zF (cs := #[.int .i64 t288, .slice none 0 0]) ?_ 1 _ rfl; refine sqK ?_; refine zF (cs := #[.int .i64 0, .slice none 0 0]) ?_ 0 _ rfl; refine sqK ?_; exact BK293.out) hb); have n6_ := Aside0.mk (zc sqB hb); clear HO_6; clear HO287; clear HO291; clear BK272; clear BK293; clear HB; have HO_6 := n0_; have HO287 := n1_; have HO291 := n2_; have HO296 := n3_; have BK272 := n4_; have BK293 := n5_; have HB := n6_; clear n0_ n1_ n2_ n3_ n4_ n5_ n6_; (try clear hb); (try clear hb2); (try clear hk); (try clear hi); (try clear ho0); obtain ⟨Ao46, co46, eo46⟩ := Kd.zK HO296.out; subst eo46) | (go_at_call 17; (try simp only [zi, zj]); (with_reducible refine (qe.calls k2 _ _ t294 _ _ l1 false _ ?side1 ?side2 ?side3 ?side4 A23.out).mono ?_); (case side1 => exact sqC (Kd.zg HO296.out).2.2); (case side2 => exact (Kd.zg HO296.out).2.1); (case side3 => exact sqC (Kd.zt HR1.out HB.out)); (case side4 => exact HC1.out); rintro e w' ⟨rfl, ⟨nd, rfl⟩⟩; (try first | exact ⟨rfl, _, World.drewN_drewN _ _ _⟩ | exact ⟨rfl, _, Eq.trans (World.drewN_drewN _ _ _) (congrArg (World.drewN _) (Nat.add_assoc _ _ _))⟩); have hcz47_0 : w45.cell? ⟨gb272, 0, none⟩ = some (.int .i64 0) := (za BK272.out 0).trans rfl; have hcz47_1 : w45.cell? ⟨gb272, 1, none⟩ = some (.slice none 0 0) := (za BK272.out 1).trans rfl; have hfz47_0 := zb BK272.out 0; have hfz47_1 := zb BK272.out 1)))
         refine bodyPost_ret (qz rfl _ _ gb272 24 #[.int .i64 0, .slice none 0 0] (0, 0) _ rfl (by refine sqK ?_; refine zF (cs := #[.int .i64 0, .slice none 0 0]) ?_ 1 _ rfl; refine sqK ?_; refine zF (cs := #[.int .i64 0, .slice none 0 0]) ?_ 0 _ rfl; refine sqK ?_; exact BK272.out) Tryz.underlying24 rfl (by kernel_rfl)) rfl ?_
         exact ⟨_, sqE, sqN, sqB⟩
       ·replace c21 := Bool.eq_false_iff.mpr c21
        subst c21
        have H1 : (some (0, ([] : List Int), false)) = some (r1, r2, r3) := by rw [if_neg (show ¬ (false = true) by decide)] at H; exact H
        clear H
        have H := H1
        clear H1
        simp only [Option.some.injEq, Prod.mk.injEq] at H
        obtain ⟨rfl, rfl, rfl⟩ := H
        obtain ⟨Ao48, co48, eo48⟩ := Kd.zK HO_6.out
        subst eo48
        go_wp2_with (first | (go_at_call 16; (try simp only [zi, zj]); (with_reducible refine (zA.calls k2 _ _ x6_2 t285 _ ?side1 ?side2 A19.out).mono ?_); (case side1 => exact sqC (Kd.zg HO_6.out).2.2); (case side2 => exact (Kd.zg HO_6.out).2.1); rintro e w49 ⟨v286, rfl, ho0, hb⟩; have n0_ := Aside0.mk (Kd.zw (sqR HO_6.out) (Kd.zQ ho0) hb); have n1_ := Aside0.mk (Kd.zD (Kd.zP ho0 (Kd.qt (sqR HO_6.out))) (zh sqB)); have n2_ := Aside0.mk (zd (g := gb272) (o := .cells #[.int .i64 0, .slice none 0 0] 24 (0, 0)) (sqK BK272.out) hb); have n3_ := Aside0.mk (zc sqB hb); clear HO_6; clear BK272; clear HB; have HO_6 := n0_; have HO287 := n1_; have BK272 := n2_; have HB := n3_; clear n0_ n1_ n2_ n3_; (try clear hb); (try clear hb2); (try clear hk); (try clear hi); (try clear ho0); obtain ⟨Ao50, co50, eo50⟩ := Kd.zK HO287.out; subst eo50) | (go_at_call 15; (try simp only [zi, zj]); (with_reducible refine (zB.calls k2 a0 _ _ t285 t288 t289 false _ ?side1 ?side2 A20.out).mono ?_); (case side1 => exact sqC (Kd.zg HO287.out).2.2); (case side2 => exact (Kd.zg HO287.out).2.1); rintro e w51 ⟨v290, rfl, ho0, hb⟩; have n0_ := Aside0.mk (Kd.zw (sqR HO_6.out) (Kd.zQ ho0) hb); have n1_ := Aside0.mk (Kd.zw (sqR HO287.out) (Kd.zQ ho0) hb); have n2_ := Aside0.mk (Kd.zD (Kd.zP (Kd.zP ho0 (Kd.qt (sqR HO_6.out))) (Kd.qt (sqR HO287.out))) (zh sqB)); have n3_ := Aside0.mk (zd (g := gb272) (o := .cells #[.int .i64 0, .slice none 0 0] 24 (0, 0)) (sqK BK272.out) hb); have n4_ := Aside0.mk (zc sqB hb); clear HO_6; clear HO287; clear BK272; clear HB; have HO_6 := n0_; have HO287 := n1_; have HO291 := n2_; have BK272 := n3_; have HB := n4_; clear n0_ n1_ n2_ n3_ n4_; (try clear hb); (try clear hb2); (try clear hk); (try clear hi); (try clear ho0)) | ((with_reducible refine zm (N := 8) rfl ?_); refine zq ?hg (N := 8) ?hd (cs := #[.int .i64 0, .slice none 0 0]) (t := 24) ?hr ?_; (case hd => rfl); (case hg => rfl); (case hr => exact sqG); intro gb293 hg w52 hbox hb; have n0_ := Aside0.mk (Kd.zx (sqR HO_6.out) hb); have n1_ := Aside0.mk (Kd.zx (sqR HO287.out) hb); have n2_ := Aside0.mk (Kd.zx (sqR HO291.out) hb); have n3_ := Aside0.mk (zd (g := gb272) (o := .cells #[.int .i64 0, .slice none 0 0] 24 (0, 0)) (sqK BK272.out) hb); have n4_ := Aside0.mk (zc sqB hb); have n5_ := Aside0.mk (hbox); have n6_ := Aside0.mk ((sqS hg : w.heap.size ≤ gb293)); have n7_ := Aside0.mk ((sqS hg : w.heap.size ≤ gb293)); have n8_ := Aside0.mk ((by rw [hg]; exact Nat.ne_of_lt (zU (g := gb272) (o := .cells #[.int .i64 0, .slice none 0 0] 24 (0, 0)) (sqK BK272.out)) : gb272 ≠ gb293)); have n9_ := Aside0.mk ((by rw [hg]; exact Nat.ne_of_gt (zU (g := gb272) (o := .cells #[.int .i64 0, .slice none 0 0] 24 (0, 0)) (sqK BK272.out)) : gb293 ≠ gb272)); clear HO_6; clear HO287; clear HO291; clear BK272; clear HB; have HO_6 := n0_; have HO287 := n1_; have HO291 := n2_; have BK272 := n3_; have HB := n4_; have BK293 := n5_; have GW293 := n6_; have GE293 := n7_; have NB272_293 := n8_; have NB293_272 := n9_; clear n0_ n1_ n2_ n3_ n4_ n5_ n6_ n7_ n8_ n9_; clear hb hbox hg; have hnb53 := NB293_272.out; have hnc53 := NB272_293.out; have hcz54_0 : w52.cell? ⟨gb293, 0, none⟩ = some (.int .i64 0) := (za BK293.out 0).trans rfl; have hcz54_1 : w52.cell? ⟨gb293, 1, none⟩ = some (.slice none 0 0) := (za BK293.out 1).trans rfl; have hfz54_0 := zb BK293.out 0; have hfz54_1 := zb BK293.out 1; obtain ⟨Ao55, co55, eo55⟩ := Kd.zK HO291.out; subst eo55; have hcz56_0 : w52.cell? ⟨gb272, 0, none⟩ = some (.int .i64 0) := (za BK272.out 0).trans rfl; have hcz56_1 : w52.cell? ⟨gb272, 1, none⟩ = some (.slice none 0 0) := (za BK272.out 1).trans rfl; have hfz56_0 := zb BK272.out 0; have hfz56_1 := zb BK272.out 1))
        repeat (go_quiet (first | (go_at_call 16; (try simp only [zi, zj]); (with_reducible refine (zA.calls k2 _ _ x6_2 t285 _ ?side1 ?side2 A19.out).mono ?_); (case side1 => exact sqC (Kd.zg HO_6.out).2.2); (case side2 => exact (Kd.zg HO_6.out).2.1); rintro e w49 ⟨v286, rfl, ho0, hb⟩; have n0_ := Aside0.mk (Kd.zw (sqR HO_6.out) (Kd.zQ ho0) hb); have n1_ := Aside0.mk (Kd.zD (Kd.zP ho0 (Kd.qt (sqR HO_6.out))) (zh sqB)); have n2_ := Aside0.mk (zd (g := gb272) (o := .cells #[.int .i64 0, .slice none 0 0] 24 (0, 0)) (sqK BK272.out) hb); have n3_ := Aside0.mk (zc sqB hb); clear HO_6; clear BK272; clear HB; have HO_6 := n0_; have HO287 := n1_; have BK272 := n2_; have HB := n3_; clear n0_ n1_ n2_ n3_; (try clear hb); (try clear hb2); (try clear hk); (try clear hi); (try clear ho0); obtain ⟨Ao50, co50, eo50⟩ := Kd.zK HO287.out; subst eo50) | (go_at_call 15; (try simp only [zi, zj]); (with_reducible refine (zB.calls k2 a0 _ _ t285 t288 t289 false _ ?side1 ?side2 A20.out).mono ?_); (case side1 => exact sqC (Kd.zg HO287.out).2.2); (case side2 => exact (Kd.zg HO287.out).2.1); rintro e w51 ⟨v290, rfl, ho0, hb⟩; have n0_ := Aside0.mk (Kd.zw (sqR HO_6.out) (Kd.zQ ho0) hb); have n1_ := Aside0.mk (Kd.zw (sqR HO287.out) (Kd.zQ ho0) hb); have n2_ := Aside0.mk (Kd.zD (Kd.zP (Kd.zP ho0 (Kd.qt (sqR HO_6.out))) (Kd.qt (sqR HO287.out))) (zh sqB)); have n3_ := Aside0.mk (zd (g := gb272) (o := .cells #[.int .i64 0, .slice none 0 0] 24 (0, 0)) (sqK BK272.out) hb); have n4_ := Aside0.mk (zc sqB hb); clear HO_6; clear HO287; clear BK272; clear HB; have HO_6 := n0_; have HO287 := n1_; have HO291 := n2_; have BK272 := n3_; have HB := n4_; clear n0_ n1_ n2_ n3_ n4_; (try clear hb); (try clear hb2); (try clear hk); (try clear hi); (try clear ho0)) | ((with_reducible refine zm (N := 8) rfl ?_); refine zq ?hg (N := 8) ?hd (cs := #[.int .i64 0, .slice none 0 0]) (t := 24) ?hr ?_; (case hd => rfl); (case hg => rfl); (case hr => exact sqG); intro gb293 hg w52 hbox hb; have n0_ := Aside0.mk (Kd.zx (sqR HO_6.out) hb); have n1_ := Aside0.mk (Kd.zx (sqR HO287.out) hb); have n2_ := Aside0.mk (Kd.zx (sqR HO291.out) hb); have n3_ := Aside0.mk (zd (g := gb272) (o := .cells #[.int .i64 0, .slice none 0 0] 24 (0, 0)) (sqK BK272.out) hb); have n4_ := Aside0.mk (zc sqB hb); have n5_ := Aside0.mk (hbox); have n6_ := Aside0.mk ((sqS hg : w.heap.size ≤ gb293)); have n7_ := Aside0.mk ((sqS hg : w.heap.size ≤ gb293)); have n8_ := Aside0.mk ((by rw [hg]; exact Nat.ne_of_lt (zU (g := gb272) (o := .cells #[.int .i64 0, .slice none 0 0] 24 (0, 0)) (sqK BK272.out)) : gb272 ≠ gb293)); have n9_ := Aside0.mk ((by rw [hg]; exact Nat.ne_of_gt (zU (g := gb272) (o := .cells #[.int .i64 0, .slice none 0 0] 24 (0, 0)) (sqK BK272.out)) : gb293 ≠ gb272)); clear HO_6; clear HO287; clear HO291; clear BK272; clear HB; have HO_6 := n0_; have HO287 := n1_; have HO291 := n2_; have BK272 := n3_; have HB := n4_; have BK293 := n5_; have GW293 := n6_; have GE293 := n7_; have NB272_293 := n8_; have NB293_272 := n9_; clear n0_ n1_ n2_ n3_ n4_ n5_ n6_ n7_ n8_ n9_; clear hb hbox hg; have hnb53 := NB293_272.out; have hnc53 := NB272_293.out; have hcz54_0 : w52.cell? ⟨gb293, 0, none⟩ = some (.int .i64 0) := (za BK293.out 0).trans rfl; have hcz54_1 : w52.cell? ⟨gb293, 1, none⟩ = some (.slice none 0 0) := (za BK293.out 1).trans rfl; have hfz54_0 := zb BK293.out 0; have hfz54_1 := zb BK293.out 1; obtain ⟨Ao55, co55, eo55⟩ := Kd.zK HO291.out; subst eo55; have hcz56_0 : w52.cell? ⟨gb272, 0, none⟩ = some (.int .i64 0) := (za BK272.out 0).trans rfl; have hcz56_1 : w52.cell? ⟨gb272, 1, none⟩ = some (.slice none 0 0) := (za BK272.out 1).trans rfl; have hfz56_0 := zb BK272.out 0; have hfz56_1 := zb BK272.out 1)); try go_wp2_with (first | (go_at_call 16; (try simp only [zi, zj]); (with_reducible refine (zA.calls k2 _ _ x6_2 t285 _ ?side1 ?side2 A19.out).mono ?_); (case side1 => exact sqC (Kd.zg HO_6.out).2.2); (case side2 => exact (Kd.zg HO_6.out).2.1); rintro e w49 ⟨v286, rfl, ho0, hb⟩; have n0_ := Aside0.mk (Kd.zw (sqR HO_6.out) (Kd.zQ ho0) hb); have n1_ := Aside0.mk (Kd.zD (Kd.zP ho0 (Kd.qt (sqR HO_6.out))) (zh sqB)); have n2_ := Aside0.mk (zd (g := gb272) (o := .cells #[.int .i64 0, .slice none 0 0] 24 (0, 0)) (sqK BK272.out) hb); have n3_ := Aside0.mk (zc sqB hb); clear HO_6; clear BK272; clear HB; have HO_6 := n0_; have HO287 := n1_; have BK272 := n2_; have HB := n3_; clear n0_ n1_ n2_ n3_; (try clear hb); (try clear hb2); (try clear hk); (try clear hi); (try clear ho0); obtain ⟨Ao50, co50, eo50⟩ := Kd.zK HO287.out; subst eo50) | (go_at_call 15; (try simp only [zi, zj]); (with_reducible refine (zB.calls k2 a0 _ _ t285 t288 t289 false _ ?side1 ?side2 A20.out).mono ?_); (case side1 => exact sqC (Kd.zg HO287.out).2.2); (case side2 => exact (Kd.zg HO287.out).2.1); rintro e w51 ⟨v290, rfl, ho0, hb⟩; have n0_ := Aside0.mk (Kd.zw (sqR HO_6.out) (Kd.zQ ho0) hb); have n1_ := Aside0.mk (Kd.zw (sqR HO287.out) (Kd.zQ ho0) hb); have n2_ := Aside0.mk (Kd.zD (Kd.zP (Kd.zP ho0 (Kd.qt (sqR HO_6.out))) (Kd.qt (sqR HO287.out))) (zh sqB)); have n3_ := Aside0.mk (zd (g := gb272) (o := .cells #[.int .i64 0, .slice none 0 0] 24 (0, 0)) (sqK BK272.out) hb); have n4_ := Aside0.mk (zc sqB hb); clear HO_6; clear HO287; clear BK272; clear HB; have HO_6 := n0_; have HO287 := n1_; have HO291 := n2_; have BK272 := n3_; have HB := n4_; clear n0_ n1_ n2_ n3_ n4_; (try clear hb); (try clear hb2); (try clear hk); (try clear hi); (try clear ho0)) | ((with_reducible refine zm (N := 8) rfl ?_); refine zq ?hg (N := 8) ?hd (cs := #[.int .i64 0, .slice none 0 0]) (t := 24) ?hr ?_; (case hd => rfl); (case hg => rfl); (case hr => exact sqG); intro gb293 hg w52 hbox hb; have n0_ := Aside0.mk (Kd.zx (sqR HO_6.out) hb); have n1_ := Aside0.mk (Kd.zx (sqR HO287.out) hb); have n2_ := Aside0.mk (Kd.zx (sqR HO291.out) hb); have n3_ := Aside0.mk (zd (g := gb272) (o := .cells #[.int .i64 0, .slice none 0 0] 24 (0, 0)) (sqK BK272.out) hb); have n4_ := Aside0.mk (zc sqB hb); have n5_ := Aside0.mk (hbox); have n6_ := Aside0.mk ((sqS hg : w.heap.size ≤ gb293)); have n7_ := Aside0.mk ((sqS hg : w.heap.size ≤ gb293)); have n8_ := Aside0.mk ((by rw [hg]; exact Nat.ne_of_lt (zU (g := gb272) (o := .cells #[.int .i64 0, .slice none 0 0] 24 (0, 0)) (sqK BK272.out)) : gb272 ≠ gb293)); have n9_ := Aside0.mk ((by rw [hg]; exact Nat.ne_of_gt (zU (g := gb272) (o := .cells #[.int .i64 0, .slice none 0 0] 24 (0, 0)) (sqK BK272.out)) : gb293 ≠ gb272)); clear HO_6; clear HO287; clear HO291; clear BK272; clear HB; have HO_6 := n0_; have HO287 := n1_; have HO291 := n2_; have BK272 := n3_; have HB := n4_; have BK293 := n5_; have GW293 := n6_; have GE293 := n7_; have NB272_293 := n8_; have NB293_272 := n9_; clear n0_ n1_ n2_ n3_ n4_ n5_ n6_ n7_ n8_ n9_; clear hb hbox hg; have hnb53 := NB293_272.out; have hnc53 := NB272_293.out; have hcz54_0 : w52.cell? ⟨gb293, 0, none⟩ = some (.int .i64 0) := (za BK293.out 0).trans rfl; have hcz54_1 : w52.cell? ⟨gb293, 1, none⟩ = some (.slice none 0 0) := (za BK293.out 1).trans rfl; have hfz54_0 := zb BK293.out 0; have hfz54_1 := zb BK293.out 1; obtain ⟨Ao55, co55, eo55⟩ := Kd.zK HO291.out; subst eo55; have hcz56_0 : w52.cell? ⟨gb272, 0, none⟩ = some (.int .i64 0) := (za BK272.out 0).trans rfl; have hcz56_1 : w52.cell? ⟨gb272, 1, none⟩ = some (.slice none 0 0) := (za BK272.out 1).trans rfl; have hfz56_0 := zb BK272.out 0; have hfz56_1 := zb BK272.out 1)))
        refine bodyPost_ret (qz rfl _ _ gb272 24 #[.int .i64 0, .slice none 0 0] (0, 0) _ rfl (by refine sqK ?_; refine zF (cs := #[.int .i64 0, .slice none 0 0]) ?_ 1 _ rfl; refine sqK ?_; refine zF (cs := #[.int .i64 0, .slice none 0 0]) ?_ 0 _ rfl; refine sqK ?_; refine z6 ?_ NB272_293.out _; refine sqK ?_; refine z6 ?_ NB272_293.out _; refine sqK ?_; exact BK272.out) Tryz.underlying24 rfl (by kernel_rfl)) rfl ?_
        exact ⟨_, sqE, sqN, sqB⟩

end Go.Proofs.YteggmbhcnhbamaaGreat.F
end
section
namespace Go.Proofs
open Go.Shelf
def Tryz.VR : Go.Shelf.Ren := ⟨fun | 189 => 61 | 125 => 76 | 257 => 75 | 128 => 92 | 129 => 93 | 294 => 83 | 295 => 84 | 296 => 85 | 297 => 86 | 298 => 87 | 299 => 88 | 216 => 89 | 300 => 90 | 301 => 91 | 328 => 98 | 329 => 99 | 330 => 100 | 331 => 101 | 332 => 102 | 215 => 103 | 343 => 105 | n => n, fun | 28 => 22 | 3 => 3 | 46 => 38 | 0 => 0 | 51 => 69 | 53 => 71 | 4 => 4 | 183 => 62 | 182 => 61 | 131 => 66 | 5 => 5 | 9 => 9 | 218 => 72 | 222 => 76 | 228 => 78 | 229 => 79 | n => n, fun | n => n⟩
theorem Tryz.Ye : Go.Proofs.Lays.n189 Tryz.prog Tryz.VR := {
  mixed := by kernel_rfl
  f125 := Tryz.func76.trans (congrArg some (by kernel_rfl))
  f128 := Tryz.func92.trans (congrArg some (by kernel_rfl))
  f129 := Tryz.func93.trans (congrArg some (by kernel_rfl))
  f189 := Tryz.func61.trans (congrArg some (by kernel_rfl))
  f215 := Tryz.func103.trans (congrArg some (by kernel_rfl))
  f216 := Tryz.func89.trans (congrArg some (by kernel_rfl))
  f257 := Tryz.func75.trans (congrArg some (by kernel_rfl))
  f294 := Tryz.func83.trans (congrArg some (by kernel_rfl))
  f295 := Tryz.func84.trans (congrArg some (by kernel_rfl))
  f296 := Tryz.func85.trans (congrArg some (by kernel_rfl))
  f297 := Tryz.func86.trans (congrArg some (by kernel_rfl))
  f298 := Tryz.func87.trans (congrArg some (by kernel_rfl))
  f299 := Tryz.func88.trans (congrArg some (by kernel_rfl))
  f300 := Tryz.func90.trans (congrArg some (by kernel_rfl))
  f301 := Tryz.func91.trans (congrArg some (by kernel_rfl))
  f328 := Tryz.func98.trans (congrArg some (by kernel_rfl))
  f329 := Tryz.func99.trans (congrArg some (by kernel_rfl))
  f330 := Tryz.func100.trans (congrArg some (by kernel_rfl))
  f331 := Tryz.func101.trans (congrArg some (by kernel_rfl))
  f332 := Tryz.func102.trans (congrArg some (by kernel_rfl))
  f343 := Tryz.func105.trans (congrArg some (by kernel_rfl))
  t0 := Tryz.underlying0
  a0 := Tryz.isAgg0
  z0 := Tryz.sizeOf0
  v0 := Tryz.zeroValue0
  t3 := Tryz.underlying3
  a3 := Tryz.isAgg3
  z3 := Tryz.sizeOf3
  v3 := Tryz.zeroValue3
  t4 := Tryz.underlying4
  a4 := Tryz.isAgg4
  z4 := Tryz.sizeOf4
  v4 := Tryz.zeroValue4
  t5 := Tryz.underlying5
  a5 := Tryz.isAgg5
  z5 := Tryz.sizeOf5
  v5 := Tryz.zeroValue5
  t9 := Tryz.underlying9
  a9 := Tryz.isAgg9
  z9 := Tryz.sizeOf9
  v9 := Tryz.zeroValue9
  t28 := Tryz.underlying22
  a28 := Tryz.isAgg22
  z28 := Tryz.sizeOf22
  v28 := Tryz.zeroValue22
  t46 := Tryz.underlying38
  a46 := Tryz.isAgg38
  z46 := Tryz.sizeOf38
  v46 := Tryz.zeroValue38
  t51 := Tryz.underlying69
  a51 := Tryz.isAgg69
  z51 := Tryz.sizeOf69
  v51 := Tryz.zeroValue69
  t53 := Tryz.underlying71
  a53 := Tryz.isAgg71
  z53 := Tryz.sizeOf71
  v53 := Tryz.zeroValue71
  t131 := Tryz.underlying66
  a131 := Tryz.isAgg66
  z131 := Tryz.sizeOf66
  v131 := Tryz.zeroValue66
  t182 := Tryz.underlying61
  a182 := Tryz.isAgg61
  z182 := Tryz.sizeOf61
  v182 := Tryz.zeroValue61
  t183 := Tryz.underlying62
  a183 := Tryz.isAgg62
  z183 := Tryz.sizeOf62
  v183 := Tryz.zeroValue62
  t218 := Tryz.underlying72
  a218 := Tryz.isAgg72
  z218 := Tryz.sizeOf72
  v218 := Tryz.zeroValue72
  t222 := Tryz.underlying76
  a222 := Tryz.isAgg76
  z222 := Tryz.sizeOf76
  v222 := Tryz.zeroValue76
  t228 := Tryz.underlying78
  a228 := Tryz.isAgg78
  z228 := Tryz.sizeOf78
  v228 := Tryz.zeroValue78
  t229 := Tryz.underlying79
  a229 := Tryz.isAgg79
  z229 := Tryz.sizeOf79
  v229 := Tryz.zeroValue79 }
open Go.Sort Go.RowKit in
theorem Tryz.slices_Sort_int (blk off cap : Nat) (zs : List Int) (w : World) (hH : Holds (Value.int .i64) w blk off zs.toArray) (hblk : blk < w.heap.size) (hsz : zs.length < 4611686018427387904) :
    Calls Tryz.prog 61 #[.slice (some ⟨blk, off, none⟩) zs.length cap] w fun e w' =>
      e = .returned (.tuple #[]) ∧ ∃ n os, w' = grow (putRow (Value.int .i64) (Sort.ahead w n) blk off (zs.mergeSort fun x y => decide (x ≤ y)).toArray) os := Any.slices_Sort_int Tryz.Ye blk off cap zs w hH hblk hsz
def Tryz.Jx : Go.Shelf.Ren := ⟨fun | 20 => 62 | n => n, fun | 22 => 22 | 3 => 3 | 4 => 4 | 0 => 0 | n => n, fun | n => n⟩
theorem Tryz.JP : Go.Proofs.Lays2.n20 Tryz.prog Tryz.Jx := {
  mixed := by kernel_rfl
  f20 := Tryz.func62.trans (congrArg some (by kernel_rfl))
  t0 := Tryz.underlying0
  a0 := Tryz.isAgg0
  z0 := Tryz.sizeOf0
  v0 := Tryz.zeroValue0
  t3 := Tryz.underlying3
  a3 := Tryz.isAgg3
  z3 := Tryz.sizeOf3
  v3 := Tryz.zeroValue3
  t4 := Tryz.underlying4
  a4 := Tryz.isAgg4
  z4 := Tryz.sizeOf4
  v4 := Tryz.zeroValue4
  t22 := Tryz.underlying22
  a22 := Tryz.isAgg22
  z22 := Tryz.sizeOf22
  v22 := Tryz.zeroValue22
  i3 := by kernel_rfl }
open Go.RowKit Go.Lib Go.Sort in
theorem Tryz.slices_Compact_int (blk off cap : Nat) (zs : List Int) (w : World) (hH : Holds (Value.int .i64) w blk off zs.toArray) (hsz : zs.length ≤ 9223372036854775807) (hcap : zs.length ≤ cap) :
    Calls Tryz.prog 62 #[.slice (some ⟨blk, off, none⟩) zs.length cap] w fun e w' => e = .returned (.slice (some ⟨blk, off, none⟩) (Lib.compact zs).length cap) ∧ ∃ q, w' = putRow (Value.int .i64) (Sort.ahead w q) blk off (Lib.compact zs ++ List.replicate (zs.length - (Lib.compact zs).length) 0).toArray := Any.slices_Compact_int Tryz.JP blk off cap zs w hH hsz hcap
open Go.RowKit Go.Lib Go.Sort in
theorem Tryz.slices_Compact_int_empty (a : Option Addr) (cap : Nat) (w : World) :
    Calls Tryz.prog 62 #[.slice a 0 cap] w fun e w' => e = .returned (.slice a 0 cap) ∧ w' = w := Any.slices_Compact_int_empty Tryz.JP a cap w
open Go.RowKit Go.Sort in
theorem Tryz.slices_Sort_int_none (p : Option Addr) (cap : Nat) (w : World) :
    Calls Tryz.prog 61 #[.slice p 0 cap] w fun e w' => e = .returned (.tuple #[]) ∧ w' = w := Any.slices_Sort_int_none Tryz.Ye p cap w
end Go.Proofs
end
section
namespace Go.Proofs.YteggmbhcnhbamaaGreat.Mt
def sdiff (a b : Nat) : Nat := a ^^^ (a &&& b)
theorem qn (a b i : Nat) : (sdiff a b).testBit i = (a.testBit i && !b.testBit i) := by
  simp [sdiff, Nat.testBit_xor, Nat.testBit_and]; cases a.testBit i <;> cases b.testBit i <;> rfl
def elems (s : Nat) : List Nat := (List.range 8).filter s.testBit
theorem jb {s e : Nat} : e ∈ elems s ↔ e < 8 ∧ s.testBit e = true := by simp [elems]
end Go.Proofs.YteggmbhcnhbamaaGreat.Mt
end
section
namespace Go.Proofs.YteggmbhcnhbamaaGreat.Mt
/-- Sorted, each once. -/
def yW (l : List Int) : List Int := Go.Lib.compact (l.mergeSort fun x y => decide (x ≤ y))
theorem Q3 (d : Array Int) (n : Nat) (hd : ∀ i j : Nat, i ≤ j → j < n → d[i]! ≤ d[j]!) : ∀ m, m ≤ n → (Go.Lib.compactUpTo d m).Pairwise (· < ·) ∧ ∀ x, x ∈ Go.Lib.compactUpTo d m ↔ ∃ j, j < m ∧ d[j]! = x
  | 0, _ => ⟨by simp [Go.Lib.compactUpTo], fun x => by simp [Go.Lib.compactUpTo]⟩
  | m + 1, hm => by
    obtain ⟨h1, h2⟩ := Q3 d n hd m (by omega)
    rw [Go.Lib.compactUpTo_succ]
    by_cases k : Go.Lib.keeps d m = true
    · simp only [k, if_true]
      refine ⟨List.pairwise_append.2 ⟨h1, by simp, fun a ha b hb => ?_⟩, fun x => ?_⟩
      · obtain ⟨j, hj, rfl⟩ := (h2 a).1 ha
        simp only [List.mem_singleton] at hb
        subst hb
        have h3 := hd j (m - 1) (by omega) (by omega)
        have h4 := hd (m - 1) m (by omega) (by omega)
        have h5 : d[m]! ≠ d[m - 1]! := by
          simp only [Go.Lib.keeps, decide_eq_true_eq] at k
          rcases k with k | k
          · omega
          · exact k
        omega
      · rw [List.mem_append, h2, List.mem_singleton]
        constructor
        · rintro (⟨j, hj, e⟩ | e)
          · exact ⟨j, by omega, e⟩
          · exact ⟨m, by omega, e.symm⟩
        · rintro ⟨j, hj, e⟩
          by_cases c : j = m
          · subst c; exact .inr e.symm
          · exact .inl ⟨j, by omega, e⟩
    · simp only [k, if_false, List.append_nil, Bool.false_eq_true]
      refine ⟨h1, fun x => ?_⟩
      rw [h2]
      simp only [Go.Lib.keeps, decide_eq_true_eq] at k
      constructor
      · rintro ⟨j, hj, e⟩; exact ⟨j, by omega, e⟩
      · rintro ⟨j, hj, e⟩
        by_cases c : j = m
        · subst c
          by_cases c0 : j = 0
          · exact absurd (.inl c0) k
          · exact ⟨j - 1, by omega, by
              by_cases c1 : d[j]! = d[j - 1]!
              · rw [← c1]; exact e
              · exact absurd (.inr c1) k⟩
        · exact ⟨j, by omega, e⟩
theorem QU (l : List Int) (j : Nat) (h : j < l.length) : l.toArray[j]! = l[j] := by
  rw [getElem!_pos l.toArray j (by simpa using h)]; simp
theorem ZC (l : List Int) (h : l.Pairwise (· ≤ ·)) : (Go.Lib.compact l).Pairwise (· < ·) ∧ ∀ x, x ∈ Go.Lib.compact l ↔ x ∈ l := by
  have hd : ∀ i j : Nat, i ≤ j → j < l.length → l.toArray[i]! ≤ l.toArray[j]! := fun i j hij hj => by
    rw [QU l i (by omega), QU l j hj]
    by_cases e : i = j
    · subst e; exact Int.le_refl _
    · exact List.pairwise_iff_getElem.1 h i j (by omega) hj (by omega)
  obtain ⟨h1, h2⟩ := Q3 l.toArray l.length hd l.length (Nat.le_refl _)
  refine ⟨h1, fun x => ?_⟩
  unfold Go.Lib.compact
  rw [h2]
  constructor
  · rintro ⟨j, hj, rfl⟩; rw [QU l j hj]; exact List.getElem_mem hj
  · intro hx
    obtain ⟨j, hj, e⟩ := List.getElem_of_mem hx
    exact ⟨j, hj, by rw [QU l j hj]; exact e⟩
theorem Ym (l : List Int) : (l.mergeSort fun x y => decide (x ≤ y)).Pairwise (· ≤ ·) := by
  have := List.pairwise_mergeSort (le := fun x y : Int => decide (x ≤ y)) (fun a b c h1 h2 => by simp only [decide_eq_true_eq] at *; omega) (fun a b => by simp only [Bool.or_eq_true, decide_eq_true_eq]; omega) l
  exact this.imp fun h => by simpa using h
theorem yi (l : List Int) : (yW l).Pairwise (· < ·) := (ZC _ (Ym l)).1
theorem Zt {l : List Int} {x : Int} : x ∈ yW l ↔ x ∈ l := by
  unfold yW
  rw [(ZC _ (Ym l)).2, List.mem_mergeSort]
theorem Qw (l : List Int) : (yW l).length ≤ l.length := by
  have := Go.Lib.compact_length_le (l.mergeSort fun x y => decide (x ≤ y))
  rwa [List.length_mergeSort] at this
theorem Qx : ∀ {l l' : List Int}, l.Pairwise (· < ·) → l'.Pairwise (· < ·) → (∀ x, x ∈ l ↔ x ∈ l') → l = l'
  | [], [], _, _, _ => rfl
  | [], b :: _, _, _, hm => absurd ((hm b).2 (List.mem_cons_self ..)) (by simp)
  | a :: _, [], _, _, hm => absurd ((hm a).1 (List.mem_cons_self ..)) (by simp)
  | a :: l, b :: l', h, h', hm => by
    rw [List.pairwise_cons] at h h'
    have hab : a = b := by
      rcases List.mem_cons.1 ((hm a).1 (List.mem_cons_self ..)) with e | e
      · exact e
      · rcases List.mem_cons.1 ((hm b).2 (List.mem_cons_self ..)) with e' | e'
        · exact e'.symm
        · have := h'.1 a e; have := h.1 b e'; omega
    subst hab
    rw [Qx h.2 h'.2 fun x => ⟨fun hx => by
      rcases List.mem_cons.1 ((hm x).1 (List.mem_cons_of_mem _ hx)) with e | e
      · subst e; have := h.1 x hx; omega
      · exact e, fun hx => by
      rcases List.mem_cons.1 ((hm x).2 (List.mem_cons_of_mem _ hx)) with e | e
      · subst e; have := h'.1 x hx; omega
      · exact e⟩]
theorem Zc {l l' : List Int} (h : l'.Pairwise (· < ·)) (hm : ∀ x, x ∈ l' ↔ x ∈ l) : yW l = l' :=
  Qx (yi l) h fun x => by rw [Zt, hm]
end Go.Proofs.YteggmbhcnhbamaaGreat.Mt
end
section
namespace Go.Proofs.YteggmbhcnhbamaaGreat.F
open Go.RowKit Go.Proofs.YteggmbhcnhbamaaGreatW.PrintWords Go.Proofs.YteggmbhcnhbamaaGreatW.PrintLast Go.Proofs.YteggmbhcnhbamaaGreatW.PrintMore Go.Sort
set_option linter.unusedSimpArgs false
set_option linter.unusedVariables false
theorem V1 (v : Value) (l : List Int) (base : Nat) (w0 w : World) (hb : Below base w0 w) (hs : base ≤ w.heap.size) (ho : Kd.R (Kd.int .i64) 3 w base (fun _ => True) v l) (hl : l.length < 4611686018427387904) :
    Calls Tryz.prog 61 #[v] w fun e w' => e = .returned (.tuple #[]) ∧ Kd.R (Kd.int .i64) 3 w' base (fun _ => True) v (l.mergeSort fun x y => decide (x ≤ y)) ∧ Below base w0 w' ∧ base ≤ w'.heap.size := by
  have hown := Kd.Z5 ho
  rcases hown.2 with ⟨rfl, hz⟩ | ⟨g, cap, cur, rfl, hbase, hblk, h1, h2, h3, h4⟩
  · have hl0 : l = [] := List.eq_nil_of_length_eq_zero hz
    subst hl0
    refine (Tryz.slices_Sort_int_none none 0 w).mono ?_
    rintro e w' ⟨rfl, rfl⟩
    exact ⟨rfl, by simpa using ho, hb, hs⟩
  · have hH := holds_of_blockI hblk (by simpa [yv] using h4)
    refine (Tryz.slices_Sort_int g 0 cap l w hH (Array.getElem?_eq_some_iff.1 hblk).1 hl).mono ?_
    rintro e w' ⟨rfl, nn, os, rfl⟩
    have hlen : (l.mergeSort fun x y => decide (x ≤ y)).length = l.length := List.length_mergeSort l
    have hr := ownsRow_sortedI (n := nn) (os := os) (ts := l.mergeSort fun x y => decide (x ≤ y)) hlen hbase hblk h1 h2 h3
    have hB := hb.grown (grownBy_sortedI (l.mergeSort fun x y => decide (x ≤ y)).toArray (w := w) (g := g) (n := nn) (os := os)) hs (fun j hj => by cases hj; exact hbase)
    refine ⟨rfl, Kd.Q9 (by rw [hlen]; exact hr) (fun _ _ => trivial), hB, Nat.le_trans hs (grownBy_sortedI _).size⟩
theorem JN (v : Value) (l : List Int) (base : Nat) (w0 w : World) (hb : Below base w0 w) (hs : base ≤ w.heap.size) (ho : Kd.R (Kd.int .i64) 3 w base (fun _ => True) v l) (hl : l.length ≤ 9223372036854775807) :
    Calls Tryz.prog 62 #[v] w fun e w' => ∃ v', e = .returned v' ∧ Kd.R (Kd.int .i64) 3 w' base (fun _ => True) v' (Lib.compact l) ∧ Below base w0 w' := by
  have hown := Kd.Z5 ho
  rcases hown.2 with ⟨rfl, hz⟩ | ⟨g, cap, cur, rfl, hbase, hblk, h1, h2, h3, h4⟩
  · have hl0 : l = [] := List.eq_nil_of_length_eq_zero hz
    subst hl0
    refine (Tryz.slices_Compact_int_empty none 0 w).mono ?_
    rintro e w' ⟨rfl, rfl⟩
    exact ⟨_, rfl, by simpa [Lib.compact, Lib.compactUpTo] using ho, hb⟩
  · have hH := holds_of_blockI hblk (by simpa [yv] using h4)
    refine (Tryz.slices_Compact_int g 0 cap l w hH hl h1).mono ?_
    rintro e w' ⟨rfl, q, rfl⟩
    have hle := Lib.compact_length_le l
    have hc := Lib.ownsRow_putRow (q := q) (k := (Lib.compact l).length) (zs := l) (ys := Lib.compact l ++ List.replicate (l.length - (Lib.compact l).length) 0) hown (by simp; omega) hle
    rw [List.take_left] at hc
    exact ⟨_, rfl, Kd.Q9 hc (fun _ _ => trivial), Lib.below_putRow hb hbase⟩
def qS.f (_ : Nat) (l : List Int) : Option (List Int) := if l.length ≤ 17592186044416 then some (Mt.yW l) else none
theorem qS.calls (k : Nat) (A0 : Option Addr) (c0 : Nat) (l0 : List Int) (r : List Int) (w : World) (hr0 : Kd.C (Kd.int .i64) w A0 l0.length l0) (hc0 : l0.length ≤ c0) (h : qS.f k l0 = some r) :
    Calls Tryz.prog 42 #[.slice A0 l0.length c0] w fun e w' => ∃ v0_ : Value, e = .returned (v0_) ∧ Kd.R (Kd.int .i64) 3 w' w.heap.size (fun _ => True) v0_ r ∧ Below w.heap.size w w' := by
  unfold qS.f at h
  by_cases hl : l0.length ≤ 17592186044416
  · rw [if_pos hl] at h
    obtain rfl := Option.some.inj h
    have HB := Aside0.mk (Below.refl w.heap.size w)
    have HR := Aside0.mk hr0
    have HC := Aside0.mk hc0
    have HL := Aside0.mk hl
    obtain ⟨yL, hyL⟩ : ∃ y_ : List Int, y_ = (([] : List Int)) := ⟨_, rfl⟩
    have NyL := Aside0.mk hyL
    clear h hr0 hc0 hl hyL
    unfold Mt.yW
    obtain ⟨yS, hyS⟩ : ∃ y_ : List Int, y_ = (l0.mergeSort fun x y => decide (x ≤ y)) := ⟨_, rfl⟩
    rw [← hyS]
    have NyS := Aside0.mk hyS
    clear hyS
    go_enter Tryz.func42, Tryz.ntmps42
    go_wp2_with (first
      | ((with_reducible refine zm (N := 4) rfl ?_); refine Kd.jy (Kd.int .i64) _ 3 ?hg (N := 4) ?hd (xs := ([] : List Int)) (inner := []) (ok := fun _ => True) (okp := fun _ => True) ?hr ?hp (fun _ hk => hk) trivial (Below.refl _ _) (Nat.le_refl _) (by simp) ?_; (case hd => rfl); (case hg => rfl); (case hr => exact sqG); (case hp => exact (qK.none _ _)); intro vL wL hoL hb hg_ hnew_; clear hg_ hnew_; (first | rw [← NyL.out] at hoL | (simp only [Int.reduceToNat] at hoL; rw [← NyL.out] at hoL)); have n0_ := Aside0.mk (Kd.zD hoL (zh sqB)); have n1_ := Aside0.mk (zc sqB hb); clear HB; have HOL := n0_; have HB := n1_; clear n0_ n1_; clear hb hoL)
      | ((with_reducible refine qB (b := .append) (xs := #[.tmp 4, .tmp 5]) rfl ?_); at_builtin; refine Kd.yH (Kd.int .i64) (w0 := w) w.heap.size rfl (.tmp 4) (.tmp 5) 22 3 (.int .i64 0) 8 rfl Tryz.underlying22 jH rfl (by decide) (by omega) vL yL l0 _ _ _ (fun _ => True) (fun _ => False) rfl rfl ?aO ?aR (fun _ _ h => h) (fun _ h => h.elim) ?aF ?aB ?aS ?aL ?_; (case aR => exact sqC (Kd.zt HR.out HB.out)); (case aB => exact sqB); (case aF => exact (fun _ _ => trivial)); (case aO => exact (sqR HOL.out)); (case aS => exact (zh sqB)); (case aL => have := HL.out; have := NyL.out; simp [this]; omega); intro vA wA ho hb hg hat; have n2_ := Aside0.mk (hb); have n3_ := Aside0.mk (show Kd.R (Kd.int .i64) 3 wA w.heap.size (fun _ => True) vA l0 from by have := NyL.out; rw [this, List.nil_append] at ho; exact ho); clear HB HOL; have HB := n2_; have HOL := n3_; clear n2_ n3_; clear ho hb hg hat)
      | (go_at_call 61; (with_reducible refine (V1 _ l0 w.heap.size w _ sqB (zh sqB) (sqR HOL.out) (by have := HL.out; omega)).mono ?_); rintro e w2 ⟨rfl, ho, hb, hs⟩; (rw [← NyS.out] at ho); clear HB HOL; have HB := Aside0.mk hb; have HOL := Aside0.mk ho; clear ho hb hs)
      | (go_at_call 62; (with_reducible refine (JN _ yS w.heap.size w _ sqB (zh sqB) (sqR HOL.out) (by have := HL.out; have := NyS.out; rw [this, List.length_mergeSort]; omega)).mono ?_); rintro e w3 ⟨v3, rfl, ho, hb⟩; clear HB HOL; have HB := Aside0.mk hb; have HOL := Aside0.mk ho; clear ho hb))
    go_ret
    exact ⟨_, rfl, sqR HOL.out, sqB⟩
  · rw [if_neg hl] at h; exact absurd h (by simp)
end Go.Proofs.YteggmbhcnhbamaaGreat.F
end
section
namespace Go.Proofs.YteggmbhcnhbamaaGreat.F
open Go.RowKit Go.Proofs.YteggmbhcnhbamaaGreatW.PrintWords Go.Proofs.YteggmbhcnhbamaaGreatW.PrintLast Go.Proofs.YteggmbhcnhbamaaGreatW.PrintMore
attribute [local go_sem] jG jJ jZ jV jr jq jF jI   -- for this text's walks alone
set_option linter.unusedVariables false
set_option linter.unusedSimpArgs false

def zI.l0 : Nat → Int → List Int → List Int → Int → Int → Option (List Int)
 | 0, _, _, _, _, _ => none
 | k + 1, x0, x5, x13, x14, x15 => if x15 < x14 then (if 0 ≤ x15 then (if x15 < (x13.length : Int) then ((q4.f x0).bind fun t350 => (if x5.length < 17592186044416 then (zI.l0 k x0 (x5 ++ [Go.bits .andNot .i64 t350 (rd x13 x15)]) x13 x14 (wrap64 (x15 + 1))) else (none))) else (none)) else (none)) else ((qS.f k x5).bind fun t354 => (some t354))
def zI.f (k : Nat) (a0 : Int) (l1 : List Int) : Option (List Int) := (qu.f k a0 l1).bind fun t345 => (if t345 = true then (zI.l0 k a0 (([] : List Int)) l1 (l1.length : Int) 0) else (some ([] : List Int)))
theorem zI.calls (k : Nat) (a0 : Int) (A1 : Option Addr) (c1 : Nat) (l1 : List Int) (r : List Int) (w : World) (hr1 : Kd.C (Kd.int .i64) w A1 l1.length l1) (hc1 : l1.length ≤ c1) (h : zI.f k a0 l1 = some r) :
  Calls Tryz.prog 38 #[.int .i64 a0, .slice A1 l1.length c1] w fun e w' => ∃ v0_ : Value, e = .returned (v0_) ∧ Kd.R (Kd.int .i64) 3 w' w.heap.size (fun _ => True) v0_ r ∧ Below w.heap.size w w' := by
 have HR1 := Aside0.mk hr1
 have HC1 := Aside0.mk hc1
 clear hr1 hc1
 have HB := Aside0.mk (Below.refl w.heap.size w)
 have H : ((qu.f k a0 l1).bind fun t345 => (if t345 = true then (zI.l0 k a0 (([] : List Int)) l1 (l1.length : Int) 0) else (some ([] : List Int)))) = some r := h
 clear h
 replace H := Option.bind_eq_some_iff.mp H
 obtain ⟨t345, A30, H⟩ := H
 replace H : (if t345 = true then (zI.l0 k a0 (([] : List Int)) l1 (l1.length : Int) 0) else (some ([] : List Int))) = some r := H
 have A3 := Aside0.mk A30
 clear A30
 by_cases c4 : t345 = true
 ·subst c4
  have H1 : (zI.l0 k a0 (([] : List Int)) l1 (l1.length : Int) 0) = some r := by rw [if_pos rfl] at H; exact H
  clear H
  have H := H1
  clear H1
  obtain ⟨y346, hy346⟩ : ∃ y_ : List Int, y_ = (([] : List Int)) := ⟨_, rfl⟩
  replace H : (zI.l0 k a0 y346 l1 (l1.length : Int) 0) = some r := by first | (rw [hy346]; with_reducible exact H) | (have H2_ := (Option.bind_some _ _).symm.trans H; rw [hy346]; with_reducible exact H2_) | (have H2_ := (Option.bind_some _ _).symm.trans H; with_reducible exact H2_) | with_reducible exact H | (rw [hy346]; exact H) | exact H
  have Ny346 := Aside0.mk hy346
  clear hy346
  have H' := Aside0.mk H
  clear H
  go_enter Tryz.func38, Tryz.ntmps38
  go_wp2_with (first | ((with_reducible refine ze (f := 57) rfl ?_); refine zv (some 10) rfl rfl Tryz.func57 (by kernel_rfl) rfl #[.int .i64 a0, .slice A1 l1.length c1] rfl sqM ?_; (with_reducible refine (qu.calls k a0 _ _ l1 true _ ?side1 ?side2 A3.out).mono ?_); (case side1 => exact sqC HR1.out); (case side2 => exact HC1.out); rintro e w' ⟨rfl, ⟨nd, rfl⟩⟩; refine ⟨_, rfl, ?_⟩) | ((with_reducible refine zm (N := 12) rfl ?_); refine Kd.jy (Kd.int .i64) _ 3 ?hg (N := 12) ?hd (xs := ([] : List Int)) (inner := []) (ok := fun _ => True) (okp := fun _ => True) ?hr ?hp (fun _ hk => hk) trivial (Below.refl _ _) (Nat.le_refl _) (by simp) ?_; (case hd => rfl); (case hg => rfl); (case hr => exact sqG); (case hp => exact (qK.none _ _)); intro v347 w5 ho6 hb hg_ hnew_; clear hg_ hnew_; (first | rw [← Ny346.out] at ho6 | (simp only [Int.reduceToNat] at ho6; rw [← Ny346.out] at ho6)); have n0_ := Aside0.mk (Kd.zD ho6 (zh sqB)); have n1_ := Aside0.mk (zc sqB hb); clear HB; have HO348 := n0_; have HB := n1_; clear n0_ n1_; clear hb ho6))
  go_loopg [5, 15] k (fun kq v5 v15 w' => ∃ (x5_1 : List Int) (x15_1 : Int), v15 = .int .i64 x15_1 ∧ Aside0 (zI.l0 kq a0 x5_1 l1 (l1.length : Int) x15_1 = some r) ∧ Aside0 (kq ≤ k) ∧ Aside0 (Kd.R (Kd.int .i64) 3 w' w.heap.size (fun _ => True) v5 x5_1) ∧ Aside0 (Below w.heap.size w w'))
  case atStart => exact ⟨(y346), (0), (sqD), H', ⟨Nat.le_refl _⟩, ⟨sqR HO348.out⟩, ⟨sqB⟩⟩
  case round =>
   clear H'
   try clear c1
   try clear p2
   try clear c3
   try clear c4
   try clear c5
   obtain ⟨x5_1, x15_1, rfl, HA, HK1, HO_5, HB⟩ := hrel
   cases gk with
   | zero => exact absurd HA.out (by simp [zI.l0])
   | succ k1 =>
    have H := HA.out
    clear HA
    simp only [zI.l0] at H
    by_cases c7 : x15_1 < (l1.length : Int)
    ·rw [if_pos c7] at H
     have c7b0 : decide (x15_1 < (l1.length : Int)) = true := decide_eq_true c7
     clear c7
     by_cases c8 : 0 ≤ x15_1
     ·rw [if_pos c8] at H
      have c8b0 : decide (0 ≤ x15_1) = true := decide_eq_true c8
      clear c8
      by_cases c9 : x15_1 < (l1.length : Int)
      ·rw [if_pos c9] at H
       have c9b0 : decide (x15_1 < (l1.length : Int)) = true := decide_eq_true c9
       clear c9
       replace H := Option.bind_eq_some_iff.mp H
       obtain ⟨t350, A100, H⟩ := H
       replace H : (if x5_1.length < 17592186044416 then (zI.l0 k1 a0 (x5_1 ++ [Go.bits .andNot .i64 t350 (rd l1 x15_1)]) l1 (l1.length : Int) (wrap64 (x15_1 + 1))) else (none)) = some r := H
       have A10 := Aside0.mk A100
       clear A100
       by_cases c11 : x5_1.length < 17592186044416
       ·rw [if_pos c11] at H
        have LMc11 := Aside0.mk c11
        clear c11
        obtain ⟨y351, hy351⟩ : ∃ y_ : List Int, y_ = (x5_1 ++ [Go.bits .andNot .i64 t350 (rd l1 x15_1)]) := ⟨_, rfl⟩
        replace H : (zI.l0 k1 a0 y351 l1 (l1.length : Int) (wrap64 (x15_1 + 1))) = some r := by first | (rw [hy351]; with_reducible exact H) | (have H2_ := (Option.bind_some _ _).symm.trans H; rw [hy351]; with_reducible exact H2_) | (have H2_ := (Option.bind_some _ _).symm.trans H; with_reducible exact H2_) | with_reducible exact H | (rw [hy351]; exact H) | exact H
        have Ny351 := Aside0.mk hy351
        clear hy351
        have H' := Aside0.mk H
        clear H
        have p349 : 0 ≤ (x15_1 : Int) := of_decide_eq_true sqA
        have q349 : x15_1 < (l1.length : Int) := of_decide_eq_true sqA
        obtain ⟨ad349, e349, hx349_0⟩ := Kd.zT HR1.out x15_1 p349 q349
        cases e349
        replace hx349_0 := (HB.out.cell (World.block_lt_of_cell? w _ hx349_0)).trans hx349_0
        replace p349 := eq_true p349
        replace q349 := eq_true q349
        go_wp2_with (first | ((with_reducible refine ze (f := 20) rfl ?_); refine zv (some 21) rfl rfl Tryz.func20 (by kernel_rfl) rfl #[.int .i64 a0] rfl sqM ?_; (with_reducible refine (q4.calls a0 t350 _ A10.out).mono ?_); rintro e w' ⟨rfl, ⟨nd, rfl⟩⟩; refine ⟨_, rfl, ?_⟩) | ((with_reducible refine qB (b := .append) (xs := #[.tmp 19, .tmp 24]) rfl ?_); at_builtin; refine Kd.ji (Kd.int .i64) (w0 := w) w.heap.size rfl (.tmp 19) (.tmp 24) 22 3 (.int .i64 0) 8 rfl Tryz.underlying22 jH rfl (by decide) (by omega) u5 x5_1 (Go.bits .andNot .i64 t350 (rd l1 x15_1)) [.int .i64 (Go.bits .andNot .i64 t350 (rd l1 x15_1))] (fun _ => True) (fun _ => False) rfl rfl ?aP (fun _ hk => hk.elim) ?aF ?aO ?aB ?aS ?aL ?_; (case aP => exact rfl); (case aB => exact sqB); (case aF => exact (fun _ _ => trivial)); (case aO => exact (sqR HO_5.out)); (case aS => exact (zh sqB)); (case aL => have := LMc11.out; omega); intro v352 w12 ho hb hg hat; rw [← Ny351.out] at ho; have n0_ := Aside0.mk (hb); have n1_ := Aside0.mk (ho); clear HB; clear HO_5; have HB := n0_; have HO353 := n1_; clear n0_ n1_; clear ho hb hg hat))
        go_roundg k1
        case measure => have := HK1.out; omega
        case rel => exact ⟨(y351), (wrap64 (x15_1 + 1)), (sqD), H', ⟨by have := HK1.out; omega⟩, ⟨sqR HO353.out⟩, ⟨sqB⟩⟩
       ·rw [if_neg c11] at H
        exact absurd H (by simp)
      ·rw [if_neg c9] at H
       exact absurd H (by simp)
     ·rw [if_neg c8] at H
      exact absurd H (by simp)
    ·rw [if_neg c7] at H
     have c7b0 : decide (x15_1 < (l1.length : Int)) = false := decide_eq_false c7
     clear c7
     replace H := Option.bind_eq_some_iff.mp H
     obtain ⟨t354, A130, H⟩ := H
     replace H : (some t354) = some r := H
     have A13 := Aside0.mk A130
     clear A130
     obtain rfl := Option.some.inj H
     obtain ⟨Ao14, co14, eo14⟩ := Kd.zK HO_5.out
     subst eo14
     go_wp2_with (first | ((with_reducible refine ze (f := 42) rfl ?_); refine zv (some 28) rfl rfl Tryz.func42 (by kernel_rfl) rfl #[.slice Ao14 x5_1.length co14] rfl sqM ?_; (with_reducible refine (qS.calls k1 _ _ x5_1 t354 _ ?side1 ?side2 A13.out).mono ?_); (case side1 => exact sqC (Kd.zg HO_5.out).2.2); (case side2 => exact (Kd.zg HO_5.out).2.1); rintro e w15 ⟨v355, rfl, ho0, hb⟩; refine ⟨_, rfl, ?_⟩; have n0_ := Aside0.mk (Kd.zw (sqR HO_5.out) (Kd.zQ ho0) hb); have n1_ := Aside0.mk (Kd.zD (Kd.zP ho0 (Kd.qt (sqR HO_5.out))) (zh sqB)); have n2_ := Aside0.mk (zc sqB hb); clear HO_5; clear HB; have HO_5 := n0_; have HO356 := n1_; have HB := n2_; clear n0_ n1_ n2_; (try clear hb); (try clear hb2); (try clear hk); (try clear hi); (try clear ho0)))
     go_ret
     exact ⟨_, sqE, by refine sqR ?_; exact Kd.zn HO356.out (fun _ hk => trivial), sqB⟩
 ·replace c4 := Bool.eq_false_iff.mpr c4
  subst c4
  have H1 : (some ([] : List Int)) = some r := by rw [if_neg (show ¬ (false = true) by decide)] at H; exact H
  clear H
  have H := H1
  clear H1
  obtain rfl := Option.some.inj H
  go_enter Tryz.func38, Tryz.ntmps38
  go_wp2_with (first | ((with_reducible refine ze (f := 57) rfl ?_); refine zv (some 10) rfl rfl Tryz.func57 (by kernel_rfl) rfl #[.int .i64 a0, .slice A1 l1.length c1] rfl sqM ?_; (with_reducible refine (qu.calls k a0 _ _ l1 false _ ?side1 ?side2 A3.out).mono ?_); (case side1 => exact sqC HR1.out); (case side2 => exact HC1.out); rintro e w' ⟨rfl, ⟨nd, rfl⟩⟩; refine ⟨_, rfl, ?_⟩))
  go_ret
  exact ⟨_, sqE, sqN, sqB⟩

end Go.Proofs.YteggmbhcnhbamaaGreat.F
end
section
namespace Go.Proofs.YteggmbhcnhbamaaGreat.F
open Go.RowKit Go.Proofs.YteggmbhcnhbamaaGreatW.PrintWords Go.Proofs.YteggmbhcnhbamaaGreatW.PrintLast Go.Proofs.YteggmbhcnhbamaaGreatW.PrintMore
set_option linter.unusedSimpArgs false
set_option linter.unusedVariables false
/-- Function g, bound to lb, answers as1 the partial function q says, in every world in which all that lay in w lies unturned. -/
def ZH (g : Nat) (lb : Array Value) (q : Int → Option Bool) (w : World) : Prop :=
  ∀ (W : World) (x : Int) (r : Bool), q x = some r → Below w.heap.size w W → Calls Tryz.prog g (#[.int .i64 x] ++ lb) W fun e w' => e = .returned (.bool r) ∧ Below W.heap.size W w'
/-- The place of the first element of which q says yes, counted from i; -1 where there is none. -/
def VK (q : Int → Option Bool) : Int → List Int → Option Int
  | _, [] => some (-1)
  | i, x :: t => (q x).bind fun b => if b = true then some i else VK q (i + 1) t
def Zv (q : Int → Option Bool) : List Int → Option Bool
  | [] => some false
  | x :: t => (q x).bind fun b => if b = true then some true else Zv q t
theorem VM (q : Int → Option Bool) : ∀ (l : List Int) (i : Int) (r : Bool), 0 ≤ i → Zv q l = some r → ∃ m, VK q i l = some m ∧ decide (0 ≤ m) = r
  | [], i, r, _, h => by
    simp only [Zv, Option.some.injEq] at h
    exact ⟨-1, rfl, by rw [← h]; rfl⟩
  | x :: t, i, r, h0, h => by
    simp only [Zv, Option.bind_eq_some_iff] at h
    obtain ⟨b, hb, h⟩ := h
    cases b with
    | true => simp only [if_true, Option.some.injEq] at h; exact ⟨i, by simp [VK, hb], by rw [← h]; simpa using h0⟩
    | false =>
      simp only [Bool.false_eq_true, if_false] at h
      obtain ⟨m, h1, h2⟩ := VM q t (i + 1) r (by omega) h
      exact ⟨m, by simp [VK, hb, h1], h2⟩
theorem QK (q : Int → Option Bool) (g : Nat) (lb : Array Value) (eg : ∀ args w, (callFunc g args).run Tryz.prog w = .ok (.enter g args) w) (A0 : Option Addr) (c0 : Nat) (l0 : List Int) (r : Int) (w : World)
    (hp : ZH g lb q w) (hr0 : Kd.C (Kd.int .i64) w A0 l0.length l0) (hc0 : l0.length ≤ c0) (hs : l0.length ≤ 17592186044416) (h : VK q 0 l0 = some r) :
    Calls Tryz.prog 63 #[.slice A0 l0.length c0, .func (.func g) #[] lb] w fun e w' => e = .returned (.int .i64 r) ∧ Below w.heap.size w w' := by
  have HR0 := Aside0.mk hr0
  have HC0 := Aside0.mk hc0
  have HP := Aside0.mk hp
  have H0 := Aside0.mk h
  have HS := Aside0.mk hs
  clear hr0 hc0 hp h hs
  go_enter Tryz.func63, Tryz.ntmps63
  go_wp2
  go_loopg [8] l0.length (fun kq v8 w' => ∃ (i : Int), v8 = .int .i64 i ∧ Aside0 (0 ≤ i ∧ i ≤ l0.length) ∧ Aside0 (VK q i (l0.drop i.toNat) = some r) ∧ Aside0 (l0.length - i.toNat ≤ kq) ∧ Aside0 (Below w.heap.size w w'))
  case atStart => exact ⟨0, rfl, ⟨Int.le_refl _, by omega⟩, ⟨by simpa using H0.out⟩, ⟨by simp⟩, ⟨Below.refl _ _⟩⟩
  case round =>
    clear H0
    obtain ⟨i, rfl, HI, HD, HK, HB⟩ := hrel
    by_cases c3 : i < (l0.length : Int)
    · have hi0 := HI.out.1
      have hi : i.toNat < l0.length := by omega
      have hi1 : (i + 1).toNat = i.toNat + 1 := by omega
      have c3b0 : decide (i < (l0.length : Int)) = true := decide_eq_true c3
      obtain ⟨ad, ead, hx⟩ := Kd.zT (Kd.zt HR0.out HB.out) i hi0 c3
      cases ead
      have hd := HD.out
      rw [List.drop_eq_getElem_cons hi] at hd
      simp only [VK, Option.bind_eq_some_iff] at hd
      obtain ⟨b, hb, hd⟩ := hd
      have hrd : rd l0 i = l0[i.toNat] := by simp [rd, List.getElem?_eq_getElem hi]
      rw [← hrd] at hb
      have HD' := Aside0.mk hd
      have HBb := Aside0.mk hb
      have HI1 := Aside0.mk hi1
      have HI2 := Aside0.mk (show 0 ≤ i ∧ i + 1 ≤ l0.length by omega)
      have p7 := eq_true hi0
      have q7 := eq_true c3
      clear hd hb hrd HD hi hi0 c3 hi1
      have hcall := HP.out _ _ _ HBb.out HB.out
      cases b with
      | true =>
        have hr := HD'.out
        simp only [if_true, Option.some.injEq] at hr
        subst hr
        clear HD'
        go_wp2
        refine hcall.mono ?_
        rintro e w' ⟨rfl, hb⟩
        have n0_ := Aside0.mk (zc HB.out hb)
        clear HB hb hx hcall
        have HB := n0_
        clear n0_
        go_wp2
        go_ret
        exact ⟨rfl, HB.out⟩
      | false =>
        have hr := HD'.out
        simp only [Bool.false_eq_true, if_false] at hr
        have HD2 := Aside0.mk hr
        clear HD' hr
        go_wp2
        refine hcall.mono ?_
        rintro e w' ⟨rfl, hb⟩
        have n0_ := Aside0.mk (zc HB.out hb)
        clear HB hb hx hcall
        have HB := n0_
        clear n0_
        go_wp2
        go_roundg (l0.length - (i.toNat + 1))
        case measure => have := HK.out; have := HI2.out; omega
        case rel => exact ⟨i + 1, by rw [show wrap64 (i + 1) = i + 1 from by unfold wrap64; have := HI2.out; have := HS.out; omega], ⟨by have := HI2.out; omega⟩, ⟨by rw [HI1.out]; exact HD2.out⟩, ⟨by rw [HI1.out]; exact Nat.le_refl _⟩, HB⟩
    · have c3b0 : decide (i < (l0.length : Int)) = false := decide_eq_false c3
      have hi : i.toNat = l0.length := by have := HI.out; omega
      have hd := HD.out
      rw [hi, List.drop_length] at hd
      simp only [VK, Option.some.injEq] at hd
      subst hd
      clear HD hi
      go_wp2
      go_ret
      exact ⟨rfl, HB.out⟩
theorem jc (q : Int → Option Bool) (g : Nat) (lb : Array Value) (eg : ∀ args w, (callFunc g args).run Tryz.prog w = .ok (.enter g args) w) (A0 : Option Addr) (c0 : Nat) (l0 : List Int) (r : Bool) (w : World)
    (hp : ZH g lb q w) (hr0 : Kd.C (Kd.int .i64) w A0 l0.length l0) (hc0 : l0.length ≤ c0) (hs : l0.length ≤ 17592186044416) (h : Zv q l0 = some r) :
    Calls Tryz.prog 43 #[.slice A0 l0.length c0, .func (.func g) #[] lb] w fun e w' => e = .returned (.bool r) ∧ Below w.heap.size w w' := by
  obtain ⟨m, hm, rfl⟩ := VM q l0 0 r (by decide) h
  have hcall := QK q g lb eg A0 c0 l0 m
  have HR0 := Aside0.mk hr0
  have HC0 := Aside0.mk hc0
  have HP := Aside0.mk hp
  have H0 := Aside0.mk hm
  have HS := Aside0.mk hs
  clear hr0 hc0 hp h hm hs
  go_enter Tryz.func43, Tryz.ntmps43
  go_wp2_with (go_at_call 63; refine (hcall _ HP.out HR0.out HC0.out HS.out H0.out).mono ?_; rintro e w' ⟨rfl, hb⟩)
  go_ret
  exact ⟨rfl, hb⟩
end Go.Proofs.YteggmbhcnhbamaaGreat.F
end
