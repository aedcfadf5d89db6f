/- Several texts of this session in one: Fx5. Conditions: as each theorem says. -/
import Derived.Test.YtkmcefhchhahhaaZDirectSum0
import Derived.Test.YtkmcefhchhahhaaZDirectSum1
import Derived.Test.YtkmcefhchhahhaaZDirectSum2
set_option maxHeartbeats 8000000
set_option maxRecDepth 100000
section
namespace Go.Proofs.Ytkmcefhchhahhaa.F
open Go.RowKit Go.Proofs.YtkmcefhchhahhaaW.PrintWords Go.Proofs.YtkmcefhchhahhaaW.PrintLast Go.Proofs.YtkmcefhchhahhaaW.PrintMore
attribute [local go_sem] jJ jO j8 j6 jl jn jI jM   -- for this text's walks alone
set_option linter.unusedVariables false
set_option linter.unusedSimpArgs false

mutual
def zc.j0 : Nat → Bool → Bool → Bool → Int → List Int → Int → List Int → Int → List Int → Int → List Int → Int → List Int → Int → List Int → Option (Bool)
 | 0, _, _, _, _, _, _, _, _, _, _, _, _, _, _, _ => none
 | k + 1, x7, x11, x53, x246000, x246001, x247000, x247001, x263000, x263001, x268000, x268001, x273000, x273001, x279000, x279001 => if x53 = true then (none) else ((zl.f k x246000 x246001).bind fun bt280 => ((zr.f k x268000 x268001 bt280.1 bt280.2).bind fun t284 => (if t284 = true then ((zl.f k x247000 x247001).bind fun bt285 => ((zr.f k x273000 x273001 bt285.1 bt285.2).bind fun t289 => (if t289 = true then ((zz.f k x268000 x268001 1).bind fun bt290 => ((zz.f k x273000 x273001 bt290.1).bind fun bt292 => (if bt292.1 < 0 then (zc.j1 k x7 true x246000 x246001 x247000 x247001 x263000 x263001 x279000 x279001) else ((zr.f k x279000 x279001 x263000 x263001).bind fun t294 => (if t294 = true then (zc.j1 k x7 (x11 != x7) x246000 x246001 x247000 x247001 x263000 x263001 x279000 x279001) else (zc.j1 k x7 true x246000 x246001 x247000 x247001 x263000 x263001 x279000 x279001)))))) else (none)))) else (none))))
def zc.j1 : Nat → Bool → Bool → Int → List Int → Int → List Int → Int → List Int → Int → List Int → Option (Bool)
 | 0, _, _, _, _, _, _, _, _, _, _ => none
 | k + 1, x7, x82, x246000, x246001, x247000, x247001, x263000, x263001, x279000, x279001 => if x82 = true then (none) else ((zz.f k x279000 x279001 1).bind fun bt295 => ((qe.f k x279000 bt295.2 1).bind fun t297 => (if t297 < 0 then (none) else (if t297 = bt295.1 then ((zl.f k x246000 x246001).bind fun bt298 => ((zl.f k x247000 x247001).bind fun bt302 => ((zg.f k bt298.1 bt298.2 bt302.1 bt302.2).bind fun bt306 => ((zr.f k bt306.1 bt306.2.1 x263000 x263001).bind fun t312 => (if t312 = true then (zc.j2 k bt295.1 (bt306.2.2 != x7) x279000 bt295.2) else (zc.j2 k bt295.1 true x279000 bt295.2)))))) else (none)))))
def zc.j2 : Nat → Int → Bool → Int → List Int → Option (Bool)
 | 0, _, _, _, _ => none
 | k + 1, x13, x110, x279000, x279001 => if x110 = true then (none) else ((qe.f k x279000 x279001 1).bind fun t313 => (if t313 < 0 then (none) else (if t313 = x13 then (some true) else (none))))
end
def zc.f (k : Nat) (a0_0 : Int) (l0_1 : List Int) (a1_0 : Int) (l1_1 : List Int) : Option (Bool) := (qb.f a0_0 l0_1 1048576).bind fun t247 => (if t247 < 0 then (some true) else ((qb.f a1_0 l1_1 t247).bind fun t248 => (if t248 < 0 then (some true) else ((zl.f k a0_0 l0_1).bind fun bt249 => ((zl.f k a1_0 l1_1).bind fun bt253 => ((zf.f k bt249.1 bt249.2 bt253.1 bt253.2).bind fun bt257 => ((zl.f k a0_0 l0_1).bind fun bt263 => ((zl.f k a1_0 l1_1).bind fun bt268 => ((zg.f k bt263.1 bt263.2 bt268.1 bt268.2).bind fun bt273 => ((zr.f k bt273.1 bt273.2.1 bt257.1 bt257.2.1).bind fun t279 => (if t279 = true then (zc.j0 k bt257.2.2 bt273.2.2 (bt273.2.2 != bt257.2.2) a0_0 l0_1 a1_0 l1_1 bt257.1 bt257.2.1 bt263.1 bt263.2 bt268.1 bt268.2 bt273.1 bt273.2.1) else (zc.j0 k bt257.2.2 bt273.2.2 true a0_0 l0_1 a1_0 l1_1 bt257.1 bt257.2.1 bt263.1 bt263.2 bt268.1 bt268.2 bt273.1 bt273.2.1))))))))))))
def zc.T8 : Bool × List (List Nat × List Nat) := (true, [([], []), ([0], [0]), ([], []), ([2, 1], [2]), ([1, 3, 3], [1, 3]), ([4], [4]), ([5], [5]), ([5], [5]), ([], []), ([8, 6, 4, 0, 1, 2, 3, 4, 5, 6, 8], [6, 8]), ([7, 9, 0, 1, 2, 3, 4, 5, 6, 7, 8, 9], [7])])
def zc.B8 : List Nat := [0, 1, 0, 7, 15, 31, 63, 63, 0, 383, 1023]
theorem zc.QJ : q3 .any (opsOf Try.f8 8) = zc.T8 := by kernel_rfl
theorem zc.Zw : qX zc.T8.2 zc.B8 = true := by kernel_rfl
def zc.T31 : Bool × List (List Nat × List Nat) := (true, [([], []), ([0], [0]), ([], []), ([2, 1], [2]), ([1, 3, 3], [1, 3]), ([4], [4]), ([5], [5]), ([5], [5]), ([], []), ([8, 6, 4, 0, 1, 2, 3, 4, 5, 6, 8], [6, 8]), ([7, 9, 0, 1, 2, 3, 4, 5, 6, 7, 8, 9], [7])])
def zc.B31 : List Nat := [0, 1, 0, 7, 15, 31, 63, 63, 0, 383, 1023]
theorem zc.JX : q3 .any (opsOf Try.f8 31) = zc.T31 := by kernel_rfl
theorem zc.JC : qX zc.T31.2 zc.B31 = true := by kernel_rfl
theorem zc.calls (k : Nat) (a0_0 : Int) (A0_1 : Option Addr) (c0_1 : Nat) (l0_1 : List Int) (a1_0 : Int) (A1_1 : Option Addr) (c1_1 : Nat) (l1_1 : List Int) (r : Bool) (w : World) (hr0_1 : Kd.C (Kd.int .i64) w A0_1 l0_1.length l0_1) (hc0_1 : l0_1.length ≤ c0_1) (hr1_1 : Kd.C (Kd.int .i64) w A1_1 l1_1.length l1_1) (hc1_1 : l1_1.length ≤ c1_1) (h : zc.f k a0_0 l0_1 a1_0 l1_1 = some r) :
  Calls Try.prog 8 #[.agg #[.int .i64 a0_0, .slice A0_1 l0_1.length c0_1], .agg #[.int .i64 a1_0, .slice A1_1 l1_1.length c1_1]] w fun e w' => e = .returned (.bool r) ∧ Below w.heap.size w w' := by
 have hu24 := Try.underlying24
 have hu26 := Try.underlying26
 have HR0_1 := Aside0.mk hr0_1
 have HC0_1 := Aside0.mk hc0_1
 clear hr0_1 hc0_1
 have HR1_1 := Aside0.mk hr1_1
 have HC1_1 := Aside0.mk hc1_1
 clear hr1_1 hc1_1
 have HB := Aside0.mk (Below.refl w.heap.size w)
 have H : ((qb.f a0_0 l0_1 1048576).bind fun t247 => (if t247 < 0 then (some true) else ((qb.f a1_0 l1_1 t247).bind fun t248 => (if t248 < 0 then (some true) else ((zl.f k a0_0 l0_1).bind fun bt249 => ((zl.f k a1_0 l1_1).bind fun bt253 => ((zf.f k bt249.1 bt249.2 bt253.1 bt253.2).bind fun bt257 => ((zl.f k a0_0 l0_1).bind fun bt263 => ((zl.f k a1_0 l1_1).bind fun bt268 => ((zg.f k bt263.1 bt263.2 bt268.1 bt268.2).bind fun bt273 => ((zr.f k bt273.1 bt273.2.1 bt257.1 bt257.2.1).bind fun t279 => (if t279 = true then (zc.j0 k bt257.2.2 bt273.2.2 (bt273.2.2 != bt257.2.2) a0_0 l0_1 a1_0 l1_1 bt257.1 bt257.2.1 bt263.1 bt263.2 bt268.1 bt268.2 bt273.1 bt273.2.1) else (zc.j0 k bt257.2.2 bt273.2.2 true a0_0 l0_1 a1_0 l1_1 bt257.1 bt257.2.1 bt263.1 bt263.2 bt268.1 bt268.2 bt273.1 bt273.2.1))))))))))))) = some r := h
 clear h
 replace H := Option.bind_eq_some_iff.mp H
 obtain ⟨t247, A30, H⟩ := H
 replace H : (if t247 < 0 then (some true) else ((qb.f a1_0 l1_1 t247).bind fun t248 => (if t248 < 0 then (some true) else ((zl.f k a0_0 l0_1).bind fun bt249 => ((zl.f k a1_0 l1_1).bind fun bt253 => ((zf.f k bt249.1 bt249.2 bt253.1 bt253.2).bind fun bt257 => ((zl.f k a0_0 l0_1).bind fun bt263 => ((zl.f k a1_0 l1_1).bind fun bt268 => ((zg.f k bt263.1 bt263.2 bt268.1 bt268.2).bind fun bt273 => ((zr.f k bt273.1 bt273.2.1 bt257.1 bt257.2.1).bind fun t279 => (if t279 = true then (zc.j0 k bt257.2.2 bt273.2.2 (bt273.2.2 != bt257.2.2) a0_0 l0_1 a1_0 l1_1 bt257.1 bt257.2.1 bt263.1 bt263.2 bt268.1 bt268.2 bt273.1 bt273.2.1) else (zc.j0 k bt257.2.2 bt273.2.2 true a0_0 l0_1 a1_0 l1_1 bt257.1 bt257.2.1 bt263.1 bt263.2 bt268.1 bt268.2 bt273.1 bt273.2.1)))))))))))) = some r := H
 have A3 := Aside0.mk A30
 clear A30
 by_cases c4 : t247 < 0
 ·rw [if_pos c4] at H
  have c4b0 : decide (t247 < 0) = true := decide_eq_true c4
  clear c4
  obtain rfl := Option.some.inj H
  go_enter Try.func8, Try.ntmps8
  go_wp2_with (first | ((with_reducible refine zE (N := 2) rfl ?_); refine zC ?hg (N := 2) ?hd (cs := #[.int .i64 a0_0, .slice A0_1 l0_1.length c0_1]) (t := 24) ?hr ?_; (case hd => rfl); (case hg => rfl); (case hr => exact sqG); intro gb245 hg w5 hbox hb; have n0_ := Aside0.mk (ze sqB hb); have n1_ := Aside0.mk (hbox); have n2_ := Aside0.mk ((sqS hg : w.heap.size ≤ gb245)); have n3_ := Aside0.mk ((sqS hg : w.heap.size ≤ gb245)); clear HB; have HB := n0_; have BK245 := n1_; have GW245 := n2_; have GE245 := n3_; clear n0_ n1_ n2_ n3_; clear hb hbox hg) | ((with_reducible refine zE (N := 3) rfl ?_); refine zC ?hg (N := 3) ?hd (cs := #[.int .i64 a1_0, .slice A1_1 l1_1.length c1_1]) (t := 24) ?hr ?_; (case hd => rfl); (case hg => rfl); (case hr => exact sqG); intro gb246 hg w6 hbox hb; have n0_ := Aside0.mk (zb (g := gb245) (o := .cells #[.int .i64 a0_0, .slice A0_1 l0_1.length c0_1] 24 (0, 0)) (sqK BK245.out) hb); have n1_ := Aside0.mk (ze sqB hb); have n2_ := Aside0.mk (hbox); have n3_ := Aside0.mk ((sqS hg : w.heap.size ≤ gb246)); have n4_ := Aside0.mk ((sqS hg : w.heap.size ≤ gb246)); have n5_ := Aside0.mk ((by rw [hg]; exact Nat.ne_of_lt (zt (g := gb245) (o := .cells #[.int .i64 a0_0, .slice A0_1 l0_1.length c0_1] 24 (0, 0)) (sqK BK245.out)) : gb245 ≠ gb246)); have n6_ := Aside0.mk ((by rw [hg]; exact Nat.ne_of_gt (zt (g := gb245) (o := .cells #[.int .i64 a0_0, .slice A0_1 l0_1.length c0_1] 24 (0, 0)) (sqK BK245.out)) : gb246 ≠ gb245)); clear BK245; clear HB; have BK245 := n0_; have HB := n1_; have BK246 := n2_; have GW246 := n3_; have GE246 := n4_; have NB245_246 := n5_; have NB246_245 := n6_; clear n0_ n1_ n2_ n3_ n4_ n5_ n6_; clear hb hbox hg; have hnb7 := NB245_246.out; have hnc7 := NB246_245.out; have hcz8_0 : w6.cell? ⟨gb245, 0, none⟩ = some (.int .i64 a0_0) := (za BK245.out 0).trans rfl; have hcz8_1 : w6.cell? ⟨gb245, 1, none⟩ = some (.slice A0_1 l0_1.length c0_1) := (za BK245.out 1).trans rfl; have hfz8_0 := zd BK245.out 0; have hfz8_1 := zd BK245.out 1) | ((with_reducible refine zn (f := 11) rfl ?_); refine zN (some 19) rfl rfl Try.func11 (by kernel_rfl) rfl #[.agg #[.int .i64 a0_0, .slice A0_1 l0_1.length c0_1], .int .i64 1048576] rfl sqM ?_; (with_reducible refine (qb.calls a0_0 _ _ l0_1 1048576 t247 _ ?side1 ?side2 A3.out).mono ?_); (case side1 => exact sqC (Kd.zF HR0_1.out HB.out)); (case side2 => exact HC0_1.out); rintro e w9 ⟨rfl, hb⟩; refine ⟨_, rfl, ?_⟩; have n0_ := Aside0.mk (zb (g := gb245) (o := .cells #[.int .i64 a0_0, .slice A0_1 l0_1.length c0_1] 24 (0, 0)) (sqK BK245.out) hb); have n1_ := Aside0.mk (zb (g := gb246) (o := .cells #[.int .i64 a1_0, .slice A1_1 l1_1.length c1_1] 24 (0, 0)) (sqK BK246.out) hb); have n2_ := Aside0.mk (ze sqB hb); clear BK245; clear BK246; clear HB; have BK245 := n0_; have BK246 := n1_; have HB := n2_; clear n0_ n1_ n2_; (try clear hb); (try clear hb2); (try clear hk); (try clear hi)))
  go_ret
  exact ⟨sqE, sqB⟩
 ·rw [if_neg c4] at H
  have c4b0 : decide (t247 < 0) = false := decide_eq_false c4
  clear c4
  replace H := Option.bind_eq_some_iff.mp H
  obtain ⟨t248, A100, H⟩ := H
  replace H : (if t248 < 0 then (some true) else ((zl.f k a0_0 l0_1).bind fun bt249 => ((zl.f k a1_0 l1_1).bind fun bt253 => ((zf.f k bt249.1 bt249.2 bt253.1 bt253.2).bind fun bt257 => ((zl.f k a0_0 l0_1).bind fun bt263 => ((zl.f k a1_0 l1_1).bind fun bt268 => ((zg.f k bt263.1 bt263.2 bt268.1 bt268.2).bind fun bt273 => ((zr.f k bt273.1 bt273.2.1 bt257.1 bt257.2.1).bind fun t279 => (if t279 = true then (zc.j0 k bt257.2.2 bt273.2.2 (bt273.2.2 != bt257.2.2) a0_0 l0_1 a1_0 l1_1 bt257.1 bt257.2.1 bt263.1 bt263.2 bt268.1 bt268.2 bt273.1 bt273.2.1) else (zc.j0 k bt257.2.2 bt273.2.2 true a0_0 l0_1 a1_0 l1_1 bt257.1 bt257.2.1 bt263.1 bt263.2 bt268.1 bt268.2 bt273.1 bt273.2.1)))))))))) = some r := H
  have A10 := Aside0.mk A100
  clear A100
  by_cases c11 : t248 < 0
  ·rw [if_pos c11] at H
   have c11b0 : decide (t248 < 0) = true := decide_eq_true c11
   clear c11
   obtain rfl := Option.some.inj H
   go_enter Try.func8, Try.ntmps8
   go_wp2_with (first | ((with_reducible refine zE (N := 2) rfl ?_); refine zC ?hg (N := 2) ?hd (cs := #[.int .i64 a0_0, .slice A0_1 l0_1.length c0_1]) (t := 24) ?hr ?_; (case hd => rfl); (case hg => rfl); (case hr => exact sqG); intro gb245 hg w12 hbox hb; have n0_ := Aside0.mk (ze sqB hb); have n1_ := Aside0.mk (hbox); have n2_ := Aside0.mk ((sqS hg : w.heap.size ≤ gb245)); have n3_ := Aside0.mk ((sqS hg : w.heap.size ≤ gb245)); clear HB; have HB := n0_; have BK245 := n1_; have GW245 := n2_; have GE245 := n3_; clear n0_ n1_ n2_ n3_; clear hb hbox hg) | ((with_reducible refine zE (N := 3) rfl ?_); refine zC ?hg (N := 3) ?hd (cs := #[.int .i64 a1_0, .slice A1_1 l1_1.length c1_1]) (t := 24) ?hr ?_; (case hd => rfl); (case hg => rfl); (case hr => exact sqG); intro gb246 hg w13 hbox hb; have n0_ := Aside0.mk (zb (g := gb245) (o := .cells #[.int .i64 a0_0, .slice A0_1 l0_1.length c0_1] 24 (0, 0)) (sqK BK245.out) hb); have n1_ := Aside0.mk (ze sqB hb); have n2_ := Aside0.mk (hbox); have n3_ := Aside0.mk ((sqS hg : w.heap.size ≤ gb246)); have n4_ := Aside0.mk ((sqS hg : w.heap.size ≤ gb246)); have n5_ := Aside0.mk ((by rw [hg]; exact Nat.ne_of_lt (zt (g := gb245) (o := .cells #[.int .i64 a0_0, .slice A0_1 l0_1.length c0_1] 24 (0, 0)) (sqK BK245.out)) : gb245 ≠ gb246)); have n6_ := Aside0.mk ((by rw [hg]; exact Nat.ne_of_gt (zt (g := gb245) (o := .cells #[.int .i64 a0_0, .slice A0_1 l0_1.length c0_1] 24 (0, 0)) (sqK BK245.out)) : gb246 ≠ gb245)); clear BK245; clear HB; have BK245 := n0_; have HB := n1_; have BK246 := n2_; have GW246 := n3_; have GE246 := n4_; have NB245_246 := n5_; have NB246_245 := n6_; clear n0_ n1_ n2_ n3_ n4_ n5_ n6_; clear hb hbox hg; have hnb14 := NB245_246.out; have hnc14 := NB246_245.out; have hcz15_0 : w13.cell? ⟨gb245, 0, none⟩ = some (.int .i64 a0_0) := (za BK245.out 0).trans rfl; have hcz15_1 : w13.cell? ⟨gb245, 1, none⟩ = some (.slice A0_1 l0_1.length c0_1) := (za BK245.out 1).trans rfl; have hfz15_0 := zd BK245.out 0; have hfz15_1 := zd BK245.out 1) | ((with_reducible refine zn (f := 11) rfl ?_); refine zN (some 19) rfl rfl Try.func11 (by kernel_rfl) rfl #[.agg #[.int .i64 a0_0, .slice A0_1 l0_1.length c0_1], .int .i64 1048576] rfl sqM ?_; (with_reducible refine (qb.calls a0_0 _ _ l0_1 1048576 t247 _ ?side1 ?side2 A3.out).mono ?_); (case side1 => exact sqC (Kd.zF HR0_1.out HB.out)); (case side2 => exact HC0_1.out); rintro e w16 ⟨rfl, hb⟩; refine ⟨_, rfl, ?_⟩; have n0_ := Aside0.mk (zb (g := gb245) (o := .cells #[.int .i64 a0_0, .slice A0_1 l0_1.length c0_1] 24 (0, 0)) (sqK BK245.out) hb); have n1_ := Aside0.mk (zb (g := gb246) (o := .cells #[.int .i64 a1_0, .slice A1_1 l1_1.length c1_1] 24 (0, 0)) (sqK BK246.out) hb); have n2_ := Aside0.mk (ze sqB hb); clear BK245; clear BK246; clear HB; have BK245 := n0_; have BK246 := n1_; have HB := n2_; clear n0_ n1_ n2_; (try clear hb); (try clear hb2); (try clear hk); (try clear hi); have hcz17_0 : w16.cell? ⟨gb246, 0, none⟩ = some (.int .i64 a1_0) := (za BK246.out 0).trans rfl; have hcz17_1 : w16.cell? ⟨gb246, 1, none⟩ = some (.slice A1_1 l1_1.length c1_1) := (za BK246.out 1).trans rfl; have hfz17_0 := zd BK246.out 0; have hfz17_1 := zd BK246.out 1) | ((with_reducible refine zn (f := 11) rfl ?_); refine zN (some 24) rfl rfl Try.func11 (by kernel_rfl) rfl #[.agg #[.int .i64 a1_0, .slice A1_1 l1_1.length c1_1], .int .i64 t247] rfl sqM ?_; (with_reducible refine (qb.calls a1_0 _ _ l1_1 t247 t248 _ ?side1 ?side2 A10.out).mono ?_); (case side1 => exact sqC (Kd.zF HR1_1.out HB.out)); (case side2 => exact HC1_1.out); rintro e w18 ⟨rfl, hb⟩; refine ⟨_, rfl, ?_⟩; have n0_ := Aside0.mk (zb (g := gb245) (o := .cells #[.int .i64 a0_0, .slice A0_1 l0_1.length c0_1] 24 (0, 0)) (sqK BK245.out) hb); have n1_ := Aside0.mk (zb (g := gb246) (o := .cells #[.int .i64 a1_0, .slice A1_1 l1_1.length c1_1] 24 (0, 0)) (sqK BK246.out) hb); have n2_ := Aside0.mk (ze sqB hb); clear BK245; clear BK246; clear HB; have BK245 := n0_; have BK246 := n1_; have HB := n2_; clear n0_ n1_ n2_; (try clear hb); (try clear hb2); (try clear hk); (try clear hi)))
   go_ret
   exact ⟨sqE, sqB⟩
  ·rw [if_neg c11] at H
   have c11b0 : decide (t248 < 0) = false := decide_eq_false c11
   clear c11
   replace H := Option.bind_eq_some_iff.mp H
   obtain ⟨⟨t249, t250⟩, A190, H⟩ := H
   replace H : ((zl.f k a1_0 l1_1).bind fun bt253 => ((zf.f k t249 t250 bt253.1 bt253.2).bind fun bt257 => ((zl.f k a0_0 l0_1).bind fun bt263 => ((zl.f k a1_0 l1_1).bind fun bt268 => ((zg.f k bt263.1 bt263.2 bt268.1 bt268.2).bind fun bt273 => ((zr.f k bt273.1 bt273.2.1 bt257.1 bt257.2.1).bind fun t279 => (if t279 = true then (zc.j0 k bt257.2.2 bt273.2.2 (bt273.2.2 != bt257.2.2) a0_0 l0_1 a1_0 l1_1 bt257.1 bt257.2.1 bt263.1 bt263.2 bt268.1 bt268.2 bt273.1 bt273.2.1) else (zc.j0 k bt257.2.2 bt273.2.2 true a0_0 l0_1 a1_0 l1_1 bt257.1 bt257.2.1 bt263.1 bt263.2 bt268.1 bt268.2 bt273.1 bt273.2.1)))))))) = some r := H
   have A19 := Aside0.mk A190
   clear A190
   replace H := Option.bind_eq_some_iff.mp H
   obtain ⟨⟨t253, t254⟩, A200, H⟩ := H
   replace H : ((zf.f k t249 t250 t253 t254).bind fun bt257 => ((zl.f k a0_0 l0_1).bind fun bt263 => ((zl.f k a1_0 l1_1).bind fun bt268 => ((zg.f k bt263.1 bt263.2 bt268.1 bt268.2).bind fun bt273 => ((zr.f k bt273.1 bt273.2.1 bt257.1 bt257.2.1).bind fun t279 => (if t279 = true then (zc.j0 k bt257.2.2 bt273.2.2 (bt273.2.2 != bt257.2.2) a0_0 l0_1 a1_0 l1_1 bt257.1 bt257.2.1 bt263.1 bt263.2 bt268.1 bt268.2 bt273.1 bt273.2.1) else (zc.j0 k bt257.2.2 bt273.2.2 true a0_0 l0_1 a1_0 l1_1 bt257.1 bt257.2.1 bt263.1 bt263.2 bt268.1 bt268.2 bt273.1 bt273.2.1))))))) = some r := H
   have A20 := Aside0.mk A200
   clear A200
   replace H := Option.bind_eq_some_iff.mp H
   obtain ⟨⟨t257, t258, t261⟩, A210, H⟩ := H
   replace H : ((zl.f k a0_0 l0_1).bind fun bt263 => ((zl.f k a1_0 l1_1).bind fun bt268 => ((zg.f k bt263.1 bt263.2 bt268.1 bt268.2).bind fun bt273 => ((zr.f k bt273.1 bt273.2.1 t257 t258).bind fun t279 => (if t279 = true then (zc.j0 k t261 bt273.2.2 (bt273.2.2 != t261) a0_0 l0_1 a1_0 l1_1 t257 t258 bt263.1 bt263.2 bt268.1 bt268.2 bt273.1 bt273.2.1) else (zc.j0 k t261 bt273.2.2 true a0_0 l0_1 a1_0 l1_1 t257 t258 bt263.1 bt263.2 bt268.1 bt268.2 bt273.1 bt273.2.1)))))) = some r := H
   have A21 := Aside0.mk A210
   clear A210
   replace H := Option.bind_eq_some_iff.mp H
   obtain ⟨⟨t263, t264⟩, A220, H⟩ := H
   replace H : ((zl.f k a1_0 l1_1).bind fun bt268 => ((zg.f k t263 t264 bt268.1 bt268.2).bind fun bt273 => ((zr.f k bt273.1 bt273.2.1 t257 t258).bind fun t279 => (if t279 = true then (zc.j0 k t261 bt273.2.2 (bt273.2.2 != t261) a0_0 l0_1 a1_0 l1_1 t257 t258 t263 t264 bt268.1 bt268.2 bt273.1 bt273.2.1) else (zc.j0 k t261 bt273.2.2 true a0_0 l0_1 a1_0 l1_1 t257 t258 t263 t264 bt268.1 bt268.2 bt273.1 bt273.2.1))))) = some r := H
   have A22 := Aside0.mk A220
   clear A220
   replace H := Option.bind_eq_some_iff.mp H
   obtain ⟨⟨t268, t269⟩, A230, H⟩ := H
   replace H : ((zg.f k t263 t264 t268 t269).bind fun bt273 => ((zr.f k bt273.1 bt273.2.1 t257 t258).bind fun t279 => (if t279 = true then (zc.j0 k t261 bt273.2.2 (bt273.2.2 != t261) a0_0 l0_1 a1_0 l1_1 t257 t258 t263 t264 t268 t269 bt273.1 bt273.2.1) else (zc.j0 k t261 bt273.2.2 true a0_0 l0_1 a1_0 l1_1 t257 t258 t263 t264 t268 t269 bt273.1 bt273.2.1)))) = some r := H
   have A23 := Aside0.mk A230
   clear A230
   replace H := Option.bind_eq_some_iff.mp H
   obtain ⟨⟨t273, t274, t277⟩, A240, H⟩ := H
   replace H : ((zr.f k t273 t274 t257 t258).bind fun t279 => (if t279 = true then (zc.j0 k t261 t277 (t277 != t261) a0_0 l0_1 a1_0 l1_1 t257 t258 t263 t264 t268 t269 t273 t274) else (zc.j0 k t261 t277 true a0_0 l0_1 a1_0 l1_1 t257 t258 t263 t264 t268 t269 t273 t274))) = some r := H
   have A24 := Aside0.mk A240
   clear A240
   have HC25 := Aside0.mk H
   clear H
   go_enter Try.func8, Try.ntmps8
   try go_wp2_with (first | ((with_reducible refine zE (N := 2) rfl ?_); refine zC ?hg (N := 2) ?hd (cs := #[.int .i64 a0_0, .slice A0_1 l0_1.length c0_1]) (t := 24) ?hr ?_; (case hd => rfl); (case hg => rfl); (case hr => exact sqG); intro gb245 hg w26 hbox hb; have n0_ := Aside0.mk (ze sqB hb); have n1_ := Aside0.mk (hbox); have n2_ := Aside0.mk ((sqS hg : w.heap.size ≤ gb245)); have n3_ := Aside0.mk ((sqS hg : w.heap.size ≤ gb245)); clear HB; have HB := n0_; have BK245 := n1_; have GW245 := n2_; have GE245 := n3_; clear n0_ n1_ n2_ n3_; clear hb hbox hg) | ((with_reducible refine zE (N := 3) rfl ?_); refine zC ?hg (N := 3) ?hd (cs := #[.int .i64 a1_0, .slice A1_1 l1_1.length c1_1]) (t := 24) ?hr ?_; (case hd => rfl); (case hg => rfl); (case hr => exact sqG); intro gb246 hg w27 hbox hb; have n0_ := Aside0.mk (zb (g := gb245) (o := .cells #[.int .i64 a0_0, .slice A0_1 l0_1.length c0_1] 24 (0, 0)) (sqK BK245.out) hb); have n1_ := Aside0.mk (ze sqB hb); have n2_ := Aside0.mk (hbox); have n3_ := Aside0.mk ((sqS hg : w.heap.size ≤ gb246)); have n4_ := Aside0.mk ((sqS hg : w.heap.size ≤ gb246)); have n5_ := Aside0.mk ((by rw [hg]; exact Nat.ne_of_lt (zt (g := gb245) (o := .cells #[.int .i64 a0_0, .slice A0_1 l0_1.length c0_1] 24 (0, 0)) (sqK BK245.out)) : gb245 ≠ gb246)); have n6_ := Aside0.mk ((by rw [hg]; exact Nat.ne_of_gt (zt (g := gb245) (o := .cells #[.int .i64 a0_0, .slice A0_1 l0_1.length c0_1] 24 (0, 0)) (sqK BK245.out)) : gb246 ≠ gb245)); clear BK245; clear HB; have BK245 := n0_; have HB := n1_; have BK246 := n2_; have GW246 := n3_; have GE246 := n4_; have NB245_246 := n5_; have NB246_245 := n6_; clear n0_ n1_ n2_ n3_ n4_ n5_ n6_; clear hb hbox hg; have hnb28 := NB245_246.out; have hnc28 := NB246_245.out; have hcz29_0 : w27.cell? ⟨gb245, 0, none⟩ = some (.int .i64 a0_0) := (za BK245.out 0).trans rfl; have hcz29_1 : w27.cell? ⟨gb245, 1, none⟩ = some (.slice A0_1 l0_1.length c0_1) := (za BK245.out 1).trans rfl; have hfz29_0 := zd BK245.out 0; have hfz29_1 := zd BK245.out 1) | ((with_reducible refine zn (f := 11) rfl ?_); refine zN (some 19) rfl rfl Try.func11 (by kernel_rfl) rfl #[.agg #[.int .i64 a0_0, .slice A0_1 l0_1.length c0_1], .int .i64 1048576] rfl sqM ?_; (with_reducible refine (qb.calls a0_0 _ _ l0_1 1048576 t247 _ ?side1 ?side2 A3.out).mono ?_); (case side1 => exact sqC (Kd.zF HR0_1.out HB.out)); (case side2 => exact HC0_1.out); rintro e w30 ⟨rfl, hb⟩; refine ⟨_, rfl, ?_⟩; have n0_ := Aside0.mk (zb (g := gb245) (o := .cells #[.int .i64 a0_0, .slice A0_1 l0_1.length c0_1] 24 (0, 0)) (sqK BK245.out) hb); have n1_ := Aside0.mk (zb (g := gb246) (o := .cells #[.int .i64 a1_0, .slice A1_1 l1_1.length c1_1] 24 (0, 0)) (sqK BK246.out) hb); have n2_ := Aside0.mk (ze sqB hb); clear BK245; clear BK246; clear HB; have BK245 := n0_; have BK246 := n1_; have HB := n2_; clear n0_ n1_ n2_; (try clear hb); (try clear hb2); (try clear hk); (try clear hi); have hcz31_0 : w30.cell? ⟨gb246, 0, none⟩ = some (.int .i64 a1_0) := (za BK246.out 0).trans rfl; have hcz31_1 : w30.cell? ⟨gb246, 1, none⟩ = some (.slice A1_1 l1_1.length c1_1) := (za BK246.out 1).trans rfl; have hfz31_0 := zd BK246.out 0; have hfz31_1 := zd BK246.out 1) | ((with_reducible refine zn (f := 11) rfl ?_); refine zN (some 24) rfl rfl Try.func11 (by kernel_rfl) rfl #[.agg #[.int .i64 a1_0, .slice A1_1 l1_1.length c1_1], .int .i64 t247] rfl sqM ?_; (with_reducible refine (qb.calls a1_0 _ _ l1_1 t247 t248 _ ?side1 ?side2 A10.out).mono ?_); (case side1 => exact sqC (Kd.zF HR1_1.out HB.out)); (case side2 => exact HC1_1.out); rintro e w32 ⟨rfl, hb⟩; refine ⟨_, rfl, ?_⟩; have n0_ := Aside0.mk (zb (g := gb245) (o := .cells #[.int .i64 a0_0, .slice A0_1 l0_1.length c0_1] 24 (0, 0)) (sqK BK245.out) hb); have n1_ := Aside0.mk (zb (g := gb246) (o := .cells #[.int .i64 a1_0, .slice A1_1 l1_1.length c1_1] 24 (0, 0)) (sqK BK246.out) hb); have n2_ := Aside0.mk (ze sqB hb); clear BK245; clear BK246; clear HB; have BK245 := n0_; have BK246 := n1_; have HB := n2_; clear n0_ n1_ n2_; (try clear hb); (try clear hb2); (try clear hk); (try clear hi)))
   have n0_ := Aside0.mk (zW BK245.out)
   have n1_ := Aside0.mk (zW BK246.out)
   have n2_ := Aside0.mk (zT HB.out)
   clear BK245 BK246 HB; have BK245 := n0_; have BK246 := n1_; have HB := n2_; clear n0_ n1_ n2_
   refine qU (n := 11) (S := fun w' => w'.cell? ⟨gb245, 0, none⟩ = some (.int .i64 a0_0) ∧ w'.cell? ⟨gb245, 1, none⟩ = some (.slice A0_1 l0_1.length c0_1) ∧ w'.cell? ⟨gb246, 0, none⟩ = some (.int .i64 a1_0) ∧ w'.cell? ⟨gb246, 1, none⟩ = some (.slice A1_1 l1_1.length c1_1)) (ds := []) #[false, false, false, false, false, false, false, false, false, false, false] (by kernel_rfl) rfl rfl ⟨(za BK245.out 0).trans rfl, (za BK245.out 1).trans rfl, (za BK246.out 0).trans rfl, (za BK246.out 1).trans rfl⟩ (fun hHeld => ?_); refine qx zc.QJ zc.Zw (fun HT_ HW_ => ?_)
   generalize w32.drew = w33 at BK245 BK246 HB hHeld ⊢
   refine qA (i := 0) (N := some 28) (v := ?_) (a' := ?_) #[true, false, false, false, false, false, false, false, false, false, false] rfl rfl (qi HT_.out HW_.out (by kernel_rfl)) (fun _ _ _ h => h) (Or.inl ⟨by rfl, ?_⟩) hHeld ?_ ?_
   rotate_left
   ·rintro w' ⟨s0, s1, s2, s3⟩; go_simp; with_reducible rfl
   rotate_left
   ·simp only [Act.put, List.setIfInBounds_toArray, List.set_cons_zero, List.set_cons_succ, zi, zj]; rfl
   refine qA (i := 2) (N := some 30) (v := ?_) (a' := ?_) #[true, false, true, false, false, false, false, false, false, false, false] rfl rfl (qi HT_.out HW_.out (by kernel_rfl)) (fun _ _ _ h => h) (Or.inl ⟨by rfl, ?_⟩) hHeld ?_ ?_
   rotate_left
   ·rintro w' ⟨s0, s1, s2, s3⟩; go_simp; with_reducible rfl
   rotate_left
   ·simp only [Act.put, List.setIfInBounds_toArray, List.set_cons_zero, List.set_cons_succ, zi, zj]; rfl
   refine Jw (σ := Value × Value × Value × Nat) 2 #[true, true, true, true, true, true, true, true, true, false, false] (fun s_ => [(29, .agg #[.int .i64 t249, s_.1]), (31, .agg #[.int .i64 t253, s_.2.1]), (32, .tuple #[.agg #[.int .i64 t257, s_.2.2.1], .bool t261]), (6, .pointer (some ⟨s_.2.2.2, 0, none⟩)), (27, .tuple #[.agg #[.int .i64 t257, s_.2.2.1], .bool t261]), (33, .agg #[.int .i64 t257, s_.2.2.1]), (34, .bool t261)]) (fun s_ w' => (w'.cell? ⟨gb245, 0, none⟩ = some (.int .i64 a0_0) ∧ w'.cell? ⟨gb245, 1, none⟩ = some (.slice A0_1 l0_1.length c0_1) ∧ w'.cell? ⟨gb246, 0, none⟩ = some (.int .i64 a1_0) ∧ w'.cell? ⟨gb246, 1, none⟩ = some (.slice A1_1 l1_1.length c1_1)) ∧ (Kd.R (Kd.int .i64) 3 w' w.heap.size (fun k_ => some k_ ≠ (s_.2.1 : Value).ownBlock ∧ some k_ ≠ (s_.2.2.1 : Value).ownBlock) s_.1 t250) ∧ (Kd.R (Kd.int .i64) 3 w' w.heap.size (fun k_ => some k_ ≠ (s_.1 : Value).ownBlock ∧ some k_ ≠ (s_.2.2.1 : Value).ownBlock) s_.2.1 t254) ∧ (Kd.R (Kd.int .i64) 3 w' w.heap.size (fun k_ => some k_ ≠ (s_.1 : Value).ownBlock ∧ some k_ ≠ (s_.2.1 : Value).ownBlock) s_.2.2.1 t258) ∧ (w'.heap[gb245]? = some (.cells #[.int .i64 a0_0, .slice A0_1 l0_1.length c0_1] 24 (0, 0))) ∧ (w'.heap[gb246]? = some (.cells #[.int .i64 a1_0, .slice A1_1 l1_1.length c1_1] 24 (0, 0))) ∧ (w'.heap[s_.2.2.2]? = some (.cells #[.int .i64 0, .slice none 0 0] 26 (0, 0))) ∧ (w.heap.size ≤ s_.2.2.2) ∧ (w.heap.size ≤ s_.2.2.2) ∧ (gb245 ≠ s_.2.2.2) ∧ (s_.2.2.2 ≠ gb245) ∧ (gb246 ≠ s_.2.2.2) ∧ (s_.2.2.2 ≠ gb246) ∧ (Below w.heap.size w w')) ?_ ?_
   rotate_left
   ·intro hCont
    refine Qq (i := 1) (j := 8) (Ni := some 29) (Nj := some 6) #[true, true, true, false, false, false, false, false, false, false, false] #[true, false, true, false, false, false, false, false, true, false, false] rfl rfl rfl rfl (vT HT_.out (by kernel_rfl)) (by decide) (by decide) (fun K hK => ?_) (fun K hK => ?_)
    ·skip
     refine qP Try.func13 (by kernel_rfl) rfl #[.agg #[.int .i64 a0_0, .slice A0_1 l0_1.length c0_1]] (by rfl) rfl rfl sqM ?_
     with_reducible refine (zl.calls k a0_0 _ _ l0_1 t249 t250 _ ?side1 ?side2 A19.out).mono ?_
     (case side1 => exact sqC (Kd.zF HR0_1.out HB.out))
     (case side2 => exact HC0_1.out)
     rintro e w34 ⟨v251, rfl, ho0, hb⟩
     refine ⟨_, rfl, ?_⟩
     have n0_ := Aside0.mk (Kd.qd ho0 (zA sqB))
     have n1_ := Aside0.mk (zb (g := gb245) (o := .cells #[.int .i64 a0_0, .slice A0_1 l0_1.length c0_1] 24 (0, 0)) (sqK BK245.out) hb)
     have n2_ := Aside0.mk (zb (g := gb246) (o := .cells #[.int .i64 a1_0, .slice A1_1 l1_1.length c1_1] 24 (0, 0)) (sqK BK246.out) hb)
     have n3_ := Aside0.mk (ze sqB hb)
     clear BK245 BK246 HB; have HO252 := n0_; have BK245 := n1_; have BK246 := n2_; have HB := n3_; clear n0_ n1_ n2_ n3_; (try clear hb); (try clear hb2); (try clear hk); (try clear hi); (try clear ho0)
     refine hK.out _ _ ⟨(za BK245.out 0).trans rfl, (za BK245.out 1).trans rfl, (za BK246.out 0).trans rfl, (za BK246.out 1).trans rfl⟩ (fun hHeld => ?_)
     clear hK K
     refine qh (a' := ?_) ?_ ?_
     rotate_left
     ·show Act.put _ (some 29) _ = _; simp only [Act.put, List.setIfInBounds_toArray, List.set_cons_zero, List.set_cons_succ, zi, zj]; rfl
     refine Qq (i := 3) (j := 8) (Ni := some 31) (Nj := some 6) #[true, true, true, true, false, false, false, false, false, false, false] #[true, true, true, false, false, false, false, false, true, false, false] rfl rfl rfl rfl (vT HT_.out (by kernel_rfl)) (by decide) (by decide) (fun K hK => ?_) (fun K hK => ?_)
     ·skip
      refine qP Try.func13 (by kernel_rfl) rfl #[.agg #[.int .i64 a1_0, .slice A1_1 l1_1.length c1_1]] (by rfl) rfl rfl sqM ?_
      with_reducible refine (zl.calls k a1_0 _ _ l1_1 t253 t254 _ ?side1 ?side2 A20.out).mono ?_
      (case side1 => exact sqC (Kd.zF HR1_1.out HB.out))
      (case side2 => exact HC1_1.out)
      rintro e w35 ⟨v255, rfl, ho0, hb⟩
      refine ⟨_, rfl, ?_⟩
      have n0_ := Aside0.mk (Kd.zw (sqR HO252.out) (Kd.zI ho0) hb)
      have n1_ := Aside0.mk (Kd.qd (Kd.zH ho0 (Kd.qc (sqR HO252.out))) (zA sqB))
      have n2_ := Aside0.mk (zb (g := gb245) (o := .cells #[.int .i64 a0_0, .slice A0_1 l0_1.length c0_1] 24 (0, 0)) (sqK BK245.out) hb)
      have n3_ := Aside0.mk (zb (g := gb246) (o := .cells #[.int .i64 a1_0, .slice A1_1 l1_1.length c1_1] 24 (0, 0)) (sqK BK246.out) hb)
      have n4_ := Aside0.mk (ze sqB hb)
      clear HO252 BK245 BK246 HB; have HO252 := n0_; have HO256 := n1_; have BK245 := n2_; have BK246 := n3_; have HB := n4_; clear n0_ n1_ n2_ n3_ n4_; (try clear hb); (try clear hb2); (try clear hk); (try clear hi); (try clear ho0)
      obtain ⟨Ao36, co36, eo36⟩ := Kd.zX HO252.out
      (first | subst eo36 | (injection eo36 with f1_ f2_ f3_; have f4_ := f1_.symm; have f5_ := f3_.symm; clear f1_ f2_ f3_; subst f4_; subst f5_))
      obtain ⟨Ao37, co37, eo37⟩ := Kd.zX HO256.out
      (first | subst eo37 | (injection eo37 with f1_ f2_ f3_; have f4_ := f1_.symm; have f5_ := f3_.symm; clear f1_ f2_ f3_; subst f4_; subst f5_))
      refine hK.out _ _ ⟨(za BK245.out 0).trans rfl, (za BK245.out 1).trans rfl, (za BK246.out 0).trans rfl, (za BK246.out 1).trans rfl⟩ (fun hHeld => ?_)
      clear hK K
      refine qh (a' := ?_) ?_ ?_
      rotate_left
      ·show Act.put _ (some 31) _ = _; simp only [Act.put, List.setIfInBounds_toArray, List.set_cons_zero, List.set_cons_succ, zi, zj]; rfl
      refine Qq (i := 4) (j := 8) (Ni := some 32) (Nj := some 6) #[true, true, true, true, true, false, false, false, false, false, false] #[true, true, true, true, false, false, false, false, true, false, false] rfl rfl rfl rfl (vT HT_.out (by kernel_rfl)) (by decide) (by decide) (fun K hK => ?_) (fun K hK => ?_)
      ·skip
       refine qP Try.func26 (by kernel_rfl) rfl #[.agg #[.int .i64 t249, .slice Ao36 t250.length co36], .agg #[.int .i64 t253, .slice Ao37 t254.length co37]] (by rfl) rfl rfl sqM ?_
       with_reducible refine (zf.calls k t249 _ _ t250 t253 _ _ t254 t257 t258 t261 _ ?side1 ?side2 ?side3 ?side4 A21.out).mono ?_
       (case side1 => exact sqC (Kd.zq HO252.out).2.2)
       (case side2 => exact (Kd.zq HO252.out).2.1)
       (case side3 => exact sqC (Kd.zq HO256.out).2.2)
       (case side4 => exact (Kd.zq HO256.out).2.1)
       rintro e w38 ⟨v259, rfl, ho0, hb⟩
       refine ⟨_, rfl, ?_⟩
       have n0_ := Aside0.mk (Kd.zw (sqR HO252.out) (Kd.zI ho0) hb)
       have n1_ := Aside0.mk (Kd.zw (sqR HO256.out) (Kd.zI ho0) hb)
       have n2_ := Aside0.mk (Kd.qd (Kd.zH (Kd.zH ho0 (Kd.qc (sqR HO252.out))) (Kd.qc (sqR HO256.out))) (zA sqB))
       have n3_ := Aside0.mk (zb (g := gb245) (o := .cells #[.int .i64 a0_0, .slice A0_1 l0_1.length c0_1] 24 (0, 0)) (sqK BK245.out) hb)
       have n4_ := Aside0.mk (zb (g := gb246) (o := .cells #[.int .i64 a1_0, .slice A1_1 l1_1.length c1_1] 24 (0, 0)) (sqK BK246.out) hb)
       have n5_ := Aside0.mk (ze sqB hb)
       clear HO252 HO256 BK245 BK246 HB; have HO252 := n0_; have HO256 := n1_; have HO260 := n2_; have BK245 := n3_; have BK246 := n4_; have HB := n5_; clear n0_ n1_ n2_ n3_ n4_ n5_; (try clear hb); (try clear hb2); (try clear hk); (try clear hi); (try clear ho0)
       refine hK.out _ _ ⟨(za BK245.out 0).trans rfl, (za BK245.out 1).trans rfl, (za BK246.out 0).trans rfl, (za BK246.out 1).trans rfl⟩ (fun hHeld => ?_)
       clear hK K
       refine qh (a' := ?_) ?_ ?_
       rotate_left
       ·show Act.put _ (some 32) _ = _; simp only [Act.put, List.setIfInBounds_toArray, List.set_cons_zero, List.set_cons_succ, zi, zj]; rfl
       refine zx (i := 5) (N := some 27) (v := ?_) (a' := ?_) #[true, true, true, true, true, true, false, false, false, false, false] rfl rfl (zp HT_.out (by kernel_rfl)) (fun _ _ _ h => h) (Or.inl ⟨by rfl, ?_⟩) ?_ ?_
       rotate_left
       ·intro w'; go_simp; with_reducible rfl
       rotate_left
       ·simp only [Act.put, List.setIfInBounds_toArray, List.set_cons_zero, List.set_cons_succ, zi, zj]; rfl
       refine zx (i := 6) (N := some 33) (v := ?_) (a' := ?_) #[true, true, true, true, true, true, true, false, false, false, false] rfl rfl (zp HT_.out (by kernel_rfl)) (fun _ _ _ h => h) (Or.inl ⟨by rfl, ?_⟩) ?_ ?_
       rotate_left
       ·intro w'; go_simp; with_reducible rfl
       rotate_left
       ·simp only [Act.put, List.setIfInBounds_toArray, List.set_cons_zero, List.set_cons_succ, zi, zj]; rfl
       refine zx (i := 7) (N := some 34) (v := ?_) (a' := ?_) #[true, true, true, true, true, true, true, true, false, false, false] rfl rfl (zp HT_.out (by kernel_rfl)) (fun _ _ _ h => h) (Or.inl ⟨by rfl, ?_⟩) ?_ ?_
       rotate_left
       ·intro w'; go_simp; with_reducible rfl
       rotate_left
       ·simp only [Act.put, List.setIfInBounds_toArray, List.set_cons_zero, List.set_cons_succ, zi, zj]; rfl
       refine qW (i := 8) (N := some 6) #[true, true, true, true, true, true, true, true, true, false, false] rfl rfl (qp HT_.out (by kernel_rfl)) (by decide) (fun K hK => ?_)
       refine jf ?hg (N := 6) ?hd (cs := #[.int .i64 0, .slice none 0 0]) (t := 26) ?hr ?_; (case hd => rfl); (case hg => rfl); (case hr => exact sqG)
       intro gb262 hg w39 hbox hb
       have n0_ := Aside0.mk (Kd.zu (sqR HO252.out) hb)
       have n1_ := Aside0.mk (Kd.zu (sqR HO256.out) hb)
       have n2_ := Aside0.mk (Kd.zu (sqR HO260.out) hb)
       have n3_ := Aside0.mk (zb (g := gb245) (o := .cells #[.int .i64 a0_0, .slice A0_1 l0_1.length c0_1] 24 (0, 0)) (sqK BK245.out) hb)
       have n4_ := Aside0.mk (zb (g := gb246) (o := .cells #[.int .i64 a1_0, .slice A1_1 l1_1.length c1_1] 24 (0, 0)) (sqK BK246.out) hb)
       have n5_ := Aside0.mk (ze sqB hb)
       have n6_ := Aside0.mk (hbox)
       have n7_ := Aside0.mk ((sqS hg : w.heap.size ≤ gb262))
       have n8_ := Aside0.mk ((sqS hg : w.heap.size ≤ gb262))
       have n9_ := Aside0.mk ((by rw [hg]; exact Nat.ne_of_lt (zt (g := gb245) (o := .cells #[.int .i64 a0_0, .slice A0_1 l0_1.length c0_1] 24 (0, 0)) (sqK BK245.out)) : gb245 ≠ gb262))
       have n10_ := Aside0.mk ((by rw [hg]; exact Nat.ne_of_gt (zt (g := gb245) (o := .cells #[.int .i64 a0_0, .slice A0_1 l0_1.length c0_1] 24 (0, 0)) (sqK BK245.out)) : gb262 ≠ gb245))
       have n11_ := Aside0.mk ((by rw [hg]; exact Nat.ne_of_lt (zt (g := gb246) (o := .cells #[.int .i64 a1_0, .slice A1_1 l1_1.length c1_1] 24 (0, 0)) (sqK BK246.out)) : gb246 ≠ gb262))
       have n12_ := Aside0.mk ((by rw [hg]; exact Nat.ne_of_gt (zt (g := gb246) (o := .cells #[.int .i64 a1_0, .slice A1_1 l1_1.length c1_1] 24 (0, 0)) (sqK BK246.out)) : gb262 ≠ gb246))
       clear HO252 HO256 HO260 BK245 BK246 HB; have HO252 := n0_; have HO256 := n1_; have HO260 := n2_; have BK245 := n3_; have BK246 := n4_; have HB := n5_; have BK262 := n6_; have GW262 := n7_; have GE262 := n8_; have NB245_262 := n9_; have NB262_245 := n10_; have NB246_262 := n11_; have NB262_246 := n12_; clear n0_ n1_ n2_ n3_ n4_ n5_ n6_ n7_ n8_ n9_ n10_ n11_ n12_ hb hbox hg
       refine hK.out _ _ ⟨(za BK245.out 0).trans rfl, (za BK245.out 1).trans rfl, (za BK246.out 0).trans rfl, (za BK246.out 1).trans rfl⟩ (fun hHeld => ?_)
       clear hK K
       refine qh (a' := ?_) ?_ ?_
       rotate_left
       ·show Act.put _ (some 6) _ = _; simp only [Act.put, List.setIfInBounds_toArray, List.set_cons_zero, List.set_cons_succ, zi, zj]; rfl
       exact qh (by simp only [ja, Act.put, List.setIfInBounds_toArray, List.set_cons_zero, List.set_cons_succ]) (hCont (.slice Ao36 t250.length co36, .slice Ao37 t254.length co37, v259, gb262) _ ⟨hHeld, (by refine sqR ?_; exact Kd.zo HO252.out (fun _ hk => by first | exact ⟨hk.1.2, hk.2⟩ | (refine ⟨?_, ?_⟩ <;> intro e_ <;> simp only [e_, ne_eq, not_true_eq_false, and_false, false_and] at hk))), (by refine sqR ?_; exact Kd.zo HO256.out (fun _ hk => by first | exact ⟨hk.1.2, hk.2⟩ | (refine ⟨?_, ?_⟩ <;> intro e_ <;> simp only [e_, ne_eq, not_true_eq_false, and_false, false_and] at hk))), (by refine sqR ?_; exact Kd.zo HO260.out (fun _ hk => by first | exact ⟨hk.1.2, hk.2⟩ | (refine ⟨?_, ?_⟩ <;> intro e_ <;> simp only [e_, ne_eq, not_true_eq_false, and_false, false_and] at hk))), (sqK BK245.out), (sqK BK246.out), (sqK BK262.out), GW262.out, GE262.out, NB245_262.out, NB262_245.out, NB246_262.out, NB262_246.out, sqB⟩)
      ·skip
       refine jf ?hg (N := 6) ?hd (cs := #[.int .i64 0, .slice none 0 0]) (t := 26) ?hr ?_; (case hd => rfl); (case hg => rfl); (case hr => exact sqG)
       intro gb262 hg w36 hbox hb
       have n0_ := Aside0.mk (Kd.zu (sqR HO252.out) hb)
       have n1_ := Aside0.mk (Kd.zu (sqR HO256.out) hb)
       have n2_ := Aside0.mk (zb (g := gb245) (o := .cells #[.int .i64 a0_0, .slice A0_1 l0_1.length c0_1] 24 (0, 0)) (sqK BK245.out) hb)
       have n3_ := Aside0.mk (zb (g := gb246) (o := .cells #[.int .i64 a1_0, .slice A1_1 l1_1.length c1_1] 24 (0, 0)) (sqK BK246.out) hb)
       have n4_ := Aside0.mk (ze sqB hb)
       have n5_ := Aside0.mk (hbox)
       have n6_ := Aside0.mk ((sqS hg : w.heap.size ≤ gb262))
       have n7_ := Aside0.mk ((sqS hg : w.heap.size ≤ gb262))
       have n8_ := Aside0.mk ((by rw [hg]; exact Nat.ne_of_lt (zt (g := gb245) (o := .cells #[.int .i64 a0_0, .slice A0_1 l0_1.length c0_1] 24 (0, 0)) (sqK BK245.out)) : gb245 ≠ gb262))
       have n9_ := Aside0.mk ((by rw [hg]; exact Nat.ne_of_gt (zt (g := gb245) (o := .cells #[.int .i64 a0_0, .slice A0_1 l0_1.length c0_1] 24 (0, 0)) (sqK BK245.out)) : gb262 ≠ gb245))
       have n10_ := Aside0.mk ((by rw [hg]; exact Nat.ne_of_lt (zt (g := gb246) (o := .cells #[.int .i64 a1_0, .slice A1_1 l1_1.length c1_1] 24 (0, 0)) (sqK BK246.out)) : gb246 ≠ gb262))
       have n11_ := Aside0.mk ((by rw [hg]; exact Nat.ne_of_gt (zt (g := gb246) (o := .cells #[.int .i64 a1_0, .slice A1_1 l1_1.length c1_1] 24 (0, 0)) (sqK BK246.out)) : gb262 ≠ gb246))
       clear HO252 HO256 BK245 BK246 HB; have HO252 := n0_; have HO256 := n1_; have BK245 := n2_; have BK246 := n3_; have HB := n4_; have BK262 := n5_; have GW262 := n6_; have GE262 := n7_; have NB245_262 := n8_; have NB262_245 := n9_; have NB246_262 := n10_; have NB262_246 := n11_; clear n0_ n1_ n2_ n3_ n4_ n5_ n6_ n7_ n8_ n9_ n10_ n11_ hb hbox hg
       obtain ⟨Ao37, co37, eo37⟩ := Kd.zX HO252.out
       (first | subst eo37 | (injection eo37 with f1_ f2_ f3_; have f4_ := f1_.symm; have f5_ := f3_.symm; clear f1_ f2_ f3_; subst f4_; subst f5_))
       obtain ⟨Ao38, co38, eo38⟩ := Kd.zX HO256.out
       (first | subst eo38 | (injection eo38 with f1_ f2_ f3_; have f4_ := f1_.symm; have f5_ := f3_.symm; clear f1_ f2_ f3_; subst f4_; subst f5_))
       refine hK.out _ _ ⟨(za BK245.out 0).trans rfl, (za BK245.out 1).trans rfl, (za BK246.out 0).trans rfl, (za BK246.out 1).trans rfl⟩ (fun hHeld => ?_)
       clear hK K
       refine qh (a' := ?_) ?_ ?_
       rotate_left
       ·show Act.put _ (some 6) _ = _; simp only [Act.put, List.setIfInBounds_toArray, List.set_cons_zero, List.set_cons_succ, zi, zj]; rfl
       refine qW (i := 4) (N := some 32) #[true, true, true, true, true, false, false, false, true, false, false] rfl rfl (qp HT_.out (by kernel_rfl)) (by decide) (fun K hK => ?_)
       refine qP Try.func26 (by kernel_rfl) rfl #[.agg #[.int .i64 t249, .slice Ao37 t250.length co37], .agg #[.int .i64 t253, .slice Ao38 t254.length co38]] (by rfl) rfl rfl sqM ?_
       with_reducible refine (zf.calls k t249 _ _ t250 t253 _ _ t254 t257 t258 t261 _ ?side1 ?side2 ?side3 ?side4 A21.out).mono ?_
       (case side1 => exact sqC (Kd.zq HO252.out).2.2)
       (case side2 => exact (Kd.zq HO252.out).2.1)
       (case side3 => exact sqC (Kd.zq HO256.out).2.2)
       (case side4 => exact (Kd.zq HO256.out).2.1)
       rintro e w39 ⟨v259, rfl, ho0, hb⟩
       refine ⟨_, rfl, ?_⟩
       have n0_ := Aside0.mk (Kd.zw (sqR HO252.out) (Kd.zI ho0) hb)
       have n1_ := Aside0.mk (Kd.zw (sqR HO256.out) (Kd.zI ho0) hb)
       have n2_ := Aside0.mk (Kd.qd (Kd.zH (Kd.zH ho0 (Kd.qc (sqR HO252.out))) (Kd.qc (sqR HO256.out))) (zA sqB))
       have n3_ := Aside0.mk (zb (g := gb245) (o := .cells #[.int .i64 a0_0, .slice A0_1 l0_1.length c0_1] 24 (0, 0)) (sqK BK245.out) hb)
       have n4_ := Aside0.mk (zb (g := gb246) (o := .cells #[.int .i64 a1_0, .slice A1_1 l1_1.length c1_1] 24 (0, 0)) (sqK BK246.out) hb)
       have n5_ := Aside0.mk (zb (g := gb262) (o := .cells #[.int .i64 0, .slice none 0 0] 26 (0, 0)) (sqK BK262.out) hb)
       have n6_ := Aside0.mk (ze sqB hb)
       clear HO252 HO256 BK245 BK246 BK262 HB; have HO252 := n0_; have HO256 := n1_; have HO260 := n2_; have BK245 := n3_; have BK246 := n4_; have BK262 := n5_; have HB := n6_; clear n0_ n1_ n2_ n3_ n4_ n5_ n6_; (try clear hb); (try clear hb2); (try clear hk); (try clear hi); (try clear ho0)
       refine hK.out _ _ ⟨(za BK245.out 0).trans rfl, (za BK245.out 1).trans rfl, (za BK246.out 0).trans rfl, (za BK246.out 1).trans rfl⟩ (fun hHeld => ?_)
       clear hK K
       refine qh (a' := ?_) ?_ ?_
       rotate_left
       ·show Act.put _ (some 32) _ = _; simp only [Act.put, List.setIfInBounds_toArray, List.set_cons_zero, List.set_cons_succ, zi, zj]; rfl
       refine zx (i := 5) (N := some 27) (v := ?_) (a' := ?_) #[true, true, true, true, true, true, false, false, true, false, false] rfl rfl (zp HT_.out (by kernel_rfl)) (fun _ _ _ h => h) (Or.inl ⟨by rfl, ?_⟩) ?_ ?_
       rotate_left
       ·intro w'; go_simp; with_reducible rfl
       rotate_left
       ·simp only [Act.put, List.setIfInBounds_toArray, List.set_cons_zero, List.set_cons_succ, zi, zj]; rfl
       refine zx (i := 6) (N := some 33) (v := ?_) (a' := ?_) #[true, true, true, true, true, true, true, false, true, false, false] rfl rfl (zp HT_.out (by kernel_rfl)) (fun _ _ _ h => h) (Or.inl ⟨by rfl, ?_⟩) ?_ ?_
       rotate_left
       ·intro w'; go_simp; with_reducible rfl
       rotate_left
       ·simp only [Act.put, List.setIfInBounds_toArray, List.set_cons_zero, List.set_cons_succ, zi, zj]; rfl
       refine zx (i := 7) (N := some 34) (v := ?_) (a' := ?_) #[true, true, true, true, true, true, true, true, true, false, false] rfl rfl (zp HT_.out (by kernel_rfl)) (fun _ _ _ h => h) (Or.inl ⟨by rfl, ?_⟩) ?_ ?_
       rotate_left
       ·intro w'; go_simp; with_reducible rfl
       rotate_left
       ·simp only [Act.put, List.setIfInBounds_toArray, List.set_cons_zero, List.set_cons_succ, zi, zj]; rfl
       exact qh (by simp only [ja, Act.put, List.setIfInBounds_toArray, List.set_cons_zero, List.set_cons_succ]) (hCont (.slice Ao37 t250.length co37, .slice Ao38 t254.length co38, v259, gb262) _ ⟨hHeld, (by refine sqR ?_; exact Kd.zo HO252.out (fun _ hk => by first | exact ⟨hk.1.2, hk.2⟩ | (refine ⟨?_, ?_⟩ <;> intro e_ <;> simp only [e_, ne_eq, not_true_eq_false, and_false, false_and] at hk))), (by refine sqR ?_; exact Kd.zo HO256.out (fun _ hk => by first | exact ⟨hk.1.2, hk.2⟩ | (refine ⟨?_, ?_⟩ <;> intro e_ <;> simp only [e_, ne_eq, not_true_eq_false, and_false, false_and] at hk))), (by refine sqR ?_; exact Kd.zo HO260.out (fun _ hk => by first | exact ⟨hk.1.2, hk.2⟩ | (refine ⟨?_, ?_⟩ <;> intro e_ <;> simp only [e_, ne_eq, not_true_eq_false, and_false, false_and] at hk))), (sqK BK245.out), (sqK BK246.out), (sqK BK262.out), GW262.out, GE262.out, NB245_262.out, NB262_245.out, NB246_262.out, NB262_246.out, sqB⟩)
     ·skip
      refine jf ?hg (N := 6) ?hd (cs := #[.int .i64 0, .slice none 0 0]) (t := 26) ?hr ?_; (case hd => rfl); (case hg => rfl); (case hr => exact sqG)
      intro gb262 hg w35 hbox hb
      have n0_ := Aside0.mk (Kd.zu (sqR HO252.out) hb)
      have n1_ := Aside0.mk (zb (g := gb245) (o := .cells #[.int .i64 a0_0, .slice A0_1 l0_1.length c0_1] 24 (0, 0)) (sqK BK245.out) hb)
      have n2_ := Aside0.mk (zb (g := gb246) (o := .cells #[.int .i64 a1_0, .slice A1_1 l1_1.length c1_1] 24 (0, 0)) (sqK BK246.out) hb)
      have n3_ := Aside0.mk (ze sqB hb)
      have n4_ := Aside0.mk (hbox)
      have n5_ := Aside0.mk ((sqS hg : w.heap.size ≤ gb262))
      have n6_ := Aside0.mk ((sqS hg : w.heap.size ≤ gb262))
      have n7_ := Aside0.mk ((by rw [hg]; exact Nat.ne_of_lt (zt (g := gb245) (o := .cells #[.int .i64 a0_0, .slice A0_1 l0_1.length c0_1] 24 (0, 0)) (sqK BK245.out)) : gb245 ≠ gb262))
      have n8_ := Aside0.mk ((by rw [hg]; exact Nat.ne_of_gt (zt (g := gb245) (o := .cells #[.int .i64 a0_0, .slice A0_1 l0_1.length c0_1] 24 (0, 0)) (sqK BK245.out)) : gb262 ≠ gb245))
      have n9_ := Aside0.mk ((by rw [hg]; exact Nat.ne_of_lt (zt (g := gb246) (o := .cells #[.int .i64 a1_0, .slice A1_1 l1_1.length c1_1] 24 (0, 0)) (sqK BK246.out)) : gb246 ≠ gb262))
      have n10_ := Aside0.mk ((by rw [hg]; exact Nat.ne_of_gt (zt (g := gb246) (o := .cells #[.int .i64 a1_0, .slice A1_1 l1_1.length c1_1] 24 (0, 0)) (sqK BK246.out)) : gb262 ≠ gb246))
      clear HO252 BK245 BK246 HB; have HO252 := n0_; have BK245 := n1_; have BK246 := n2_; have HB := n3_; have BK262 := n4_; have GW262 := n5_; have GE262 := n6_; have NB245_262 := n7_; have NB262_245 := n8_; have NB246_262 := n9_; have NB262_246 := n10_; clear n0_ n1_ n2_ n3_ n4_ n5_ n6_ n7_ n8_ n9_ n10_ hb hbox hg
      refine hK.out _ _ ⟨(za BK245.out 0).trans rfl, (za BK245.out 1).trans rfl, (za BK246.out 0).trans rfl, (za BK246.out 1).trans rfl⟩ (fun hHeld => ?_)
      clear hK K
      refine qh (a' := ?_) ?_ ?_
      rotate_left
      ·show Act.put _ (some 6) _ = _; simp only [Act.put, List.setIfInBounds_toArray, List.set_cons_zero, List.set_cons_succ, zi, zj]; rfl
      refine qW (i := 3) (N := some 31) #[true, true, true, true, false, false, false, false, true, false, false] rfl rfl (qp HT_.out (by kernel_rfl)) (by decide) (fun K hK => ?_)
      refine qP Try.func13 (by kernel_rfl) rfl #[.agg #[.int .i64 a1_0, .slice A1_1 l1_1.length c1_1]] (by rfl) rfl rfl sqM ?_
      with_reducible refine (zl.calls k a1_0 _ _ l1_1 t253 t254 _ ?side1 ?side2 A20.out).mono ?_
      (case side1 => exact sqC (Kd.zF HR1_1.out HB.out))
      (case side2 => exact HC1_1.out)
      rintro e w36 ⟨v255, rfl, ho0, hb⟩
      refine ⟨_, rfl, ?_⟩
      have n0_ := Aside0.mk (Kd.zw (sqR HO252.out) (Kd.zI ho0) hb)
      have n1_ := Aside0.mk (Kd.qd (Kd.zH ho0 (Kd.qc (sqR HO252.out))) (zA sqB))
      have n2_ := Aside0.mk (zb (g := gb245) (o := .cells #[.int .i64 a0_0, .slice A0_1 l0_1.length c0_1] 24 (0, 0)) (sqK BK245.out) hb)
      have n3_ := Aside0.mk (zb (g := gb246) (o := .cells #[.int .i64 a1_0, .slice A1_1 l1_1.length c1_1] 24 (0, 0)) (sqK BK246.out) hb)
      have n4_ := Aside0.mk (zb (g := gb262) (o := .cells #[.int .i64 0, .slice none 0 0] 26 (0, 0)) (sqK BK262.out) hb)
      have n5_ := Aside0.mk (ze sqB hb)
      clear HO252 BK245 BK246 BK262 HB; have HO252 := n0_; have HO256 := n1_; have BK245 := n2_; have BK246 := n3_; have BK262 := n4_; have HB := n5_; clear n0_ n1_ n2_ n3_ n4_ n5_; (try clear hb); (try clear hb2); (try clear hk); (try clear hi); (try clear ho0)
      obtain ⟨Ao37, co37, eo37⟩ := Kd.zX HO252.out
      (first | subst eo37 | (injection eo37 with f1_ f2_ f3_; have f4_ := f1_.symm; have f5_ := f3_.symm; clear f1_ f2_ f3_; subst f4_; subst f5_))
      obtain ⟨Ao38, co38, eo38⟩ := Kd.zX HO256.out
      (first | subst eo38 | (injection eo38 with f1_ f2_ f3_; have f4_ := f1_.symm; have f5_ := f3_.symm; clear f1_ f2_ f3_; subst f4_; subst f5_))
      refine hK.out _ _ ⟨(za BK245.out 0).trans rfl, (za BK245.out 1).trans rfl, (za BK246.out 0).trans rfl, (za BK246.out 1).trans rfl⟩ (fun hHeld => ?_)
      clear hK K
      refine qh (a' := ?_) ?_ ?_
      rotate_left
      ·show Act.put _ (some 31) _ = _; simp only [Act.put, List.setIfInBounds_toArray, List.set_cons_zero, List.set_cons_succ, zi, zj]; rfl
      refine qW (i := 4) (N := some 32) #[true, true, true, true, true, false, false, false, true, false, false] rfl rfl (qp HT_.out (by kernel_rfl)) (by decide) (fun K hK => ?_)
      refine qP Try.func26 (by kernel_rfl) rfl #[.agg #[.int .i64 t249, .slice Ao37 t250.length co37], .agg #[.int .i64 t253, .slice Ao38 t254.length co38]] (by rfl) rfl rfl sqM ?_
      with_reducible refine (zf.calls k t249 _ _ t250 t253 _ _ t254 t257 t258 t261 _ ?side1 ?side2 ?side3 ?side4 A21.out).mono ?_
      (case side1 => exact sqC (Kd.zq HO252.out).2.2)
      (case side2 => exact (Kd.zq HO252.out).2.1)
      (case side3 => exact sqC (Kd.zq HO256.out).2.2)
      (case side4 => exact (Kd.zq HO256.out).2.1)
      rintro e w39 ⟨v259, rfl, ho0, hb⟩
      refine ⟨_, rfl, ?_⟩
      have n0_ := Aside0.mk (Kd.zw (sqR HO252.out) (Kd.zI ho0) hb)
      have n1_ := Aside0.mk (Kd.zw (sqR HO256.out) (Kd.zI ho0) hb)
      have n2_ := Aside0.mk (Kd.qd (Kd.zH (Kd.zH ho0 (Kd.qc (sqR HO252.out))) (Kd.qc (sqR HO256.out))) (zA sqB))
      have n3_ := Aside0.mk (zb (g := gb245) (o := .cells #[.int .i64 a0_0, .slice A0_1 l0_1.length c0_1] 24 (0, 0)) (sqK BK245.out) hb)
      have n4_ := Aside0.mk (zb (g := gb246) (o := .cells #[.int .i64 a1_0, .slice A1_1 l1_1.length c1_1] 24 (0, 0)) (sqK BK246.out) hb)
      have n5_ := Aside0.mk (zb (g := gb262) (o := .cells #[.int .i64 0, .slice none 0 0] 26 (0, 0)) (sqK BK262.out) hb)
      have n6_ := Aside0.mk (ze sqB hb)
      clear HO252 HO256 BK245 BK246 BK262 HB; have HO252 := n0_; have HO256 := n1_; have HO260 := n2_; have BK245 := n3_; have BK246 := n4_; have BK262 := n5_; have HB := n6_; clear n0_ n1_ n2_ n3_ n4_ n5_ n6_; (try clear hb); (try clear hb2); (try clear hk); (try clear hi); (try clear ho0)
      refine hK.out _ _ ⟨(za BK245.out 0).trans rfl, (za BK245.out 1).trans rfl, (za BK246.out 0).trans rfl, (za BK246.out 1).trans rfl⟩ (fun hHeld => ?_)
      clear hK K
      refine qh (a' := ?_) ?_ ?_
      rotate_left
      ·show Act.put _ (some 32) _ = _; simp only [Act.put, List.setIfInBounds_toArray, List.set_cons_zero, List.set_cons_succ, zi, zj]; rfl
      refine zx (i := 5) (N := some 27) (v := ?_) (a' := ?_) #[true, true, true, true, true, true, false, false, true, false, false] rfl rfl (zp HT_.out (by kernel_rfl)) (fun _ _ _ h => h) (Or.inl ⟨by rfl, ?_⟩) ?_ ?_
      rotate_left
      ·intro w'; go_simp; with_reducible rfl
      rotate_left
      ·simp only [Act.put, List.setIfInBounds_toArray, List.set_cons_zero, List.set_cons_succ, zi, zj]; rfl
      refine zx (i := 6) (N := some 33) (v := ?_) (a' := ?_) #[true, true, true, true, true, true, true, false, true, false, false] rfl rfl (zp HT_.out (by kernel_rfl)) (fun _ _ _ h => h) (Or.inl ⟨by rfl, ?_⟩) ?_ ?_
      rotate_left
      ·intro w'; go_simp; with_reducible rfl
      rotate_left
      ·simp only [Act.put, List.setIfInBounds_toArray, List.set_cons_zero, List.set_cons_succ, zi, zj]; rfl
      refine zx (i := 7) (N := some 34) (v := ?_) (a' := ?_) #[true, true, true, true, true, true, true, true, true, false, false] rfl rfl (zp HT_.out (by kernel_rfl)) (fun _ _ _ h => h) (Or.inl ⟨by rfl, ?_⟩) ?_ ?_
      rotate_left
      ·intro w'; go_simp; with_reducible rfl
      rotate_left
      ·simp only [Act.put, List.setIfInBounds_toArray, List.set_cons_zero, List.set_cons_succ, zi, zj]; rfl
      exact qh (by simp only [ja, Act.put, List.setIfInBounds_toArray, List.set_cons_zero, List.set_cons_succ]) (hCont (.slice Ao37 t250.length co37, .slice Ao38 t254.length co38, v259, gb262) _ ⟨hHeld, (by refine sqR ?_; exact Kd.zo HO252.out (fun _ hk => by first | exact ⟨hk.1.2, hk.2⟩ | (refine ⟨?_, ?_⟩ <;> intro e_ <;> simp only [e_, ne_eq, not_true_eq_false, and_false, false_and] at hk))), (by refine sqR ?_; exact Kd.zo HO256.out (fun _ hk => by first | exact ⟨hk.1.2, hk.2⟩ | (refine ⟨?_, ?_⟩ <;> intro e_ <;> simp only [e_, ne_eq, not_true_eq_false, and_false, false_and] at hk))), (by refine sqR ?_; exact Kd.zo HO260.out (fun _ hk => by first | exact ⟨hk.1.2, hk.2⟩ | (refine ⟨?_, ?_⟩ <;> intro e_ <;> simp only [e_, ne_eq, not_true_eq_false, and_false, false_and] at hk))), (sqK BK245.out), (sqK BK246.out), (sqK BK262.out), GW262.out, GE262.out, NB245_262.out, NB262_245.out, NB246_262.out, NB262_246.out, sqB⟩)
    ·skip
     refine jf ?hg (N := 6) ?hd (cs := #[.int .i64 0, .slice none 0 0]) (t := 26) ?hr ?_; (case hd => rfl); (case hg => rfl); (case hr => exact sqG)
     intro gb262 hg w34 hbox hb
     have n0_ := Aside0.mk (zb (g := gb245) (o := .cells #[.int .i64 a0_0, .slice A0_1 l0_1.length c0_1] 24 (0, 0)) (sqK BK245.out) hb)
     have n1_ := Aside0.mk (zb (g := gb246) (o := .cells #[.int .i64 a1_0, .slice A1_1 l1_1.length c1_1] 24 (0, 0)) (sqK BK246.out) hb)
     have n2_ := Aside0.mk (ze sqB hb)
     have n3_ := Aside0.mk (hbox)
     have n4_ := Aside0.mk ((sqS hg : w.heap.size ≤ gb262))
     have n5_ := Aside0.mk ((sqS hg : w.heap.size ≤ gb262))
     have n6_ := Aside0.mk ((by rw [hg]; exact Nat.ne_of_lt (zt (g := gb245) (o := .cells #[.int .i64 a0_0, .slice A0_1 l0_1.length c0_1] 24 (0, 0)) (sqK BK245.out)) : gb245 ≠ gb262))
     have n7_ := Aside0.mk ((by rw [hg]; exact Nat.ne_of_gt (zt (g := gb245) (o := .cells #[.int .i64 a0_0, .slice A0_1 l0_1.length c0_1] 24 (0, 0)) (sqK BK245.out)) : gb262 ≠ gb245))
     have n8_ := Aside0.mk ((by rw [hg]; exact Nat.ne_of_lt (zt (g := gb246) (o := .cells #[.int .i64 a1_0, .slice A1_1 l1_1.length c1_1] 24 (0, 0)) (sqK BK246.out)) : gb246 ≠ gb262))
     have n9_ := Aside0.mk ((by rw [hg]; exact Nat.ne_of_gt (zt (g := gb246) (o := .cells #[.int .i64 a1_0, .slice A1_1 l1_1.length c1_1] 24 (0, 0)) (sqK BK246.out)) : gb262 ≠ gb246))
     clear BK245 BK246 HB; have BK245 := n0_; have BK246 := n1_; have HB := n2_; have BK262 := n3_; have GW262 := n4_; have GE262 := n5_; have NB245_262 := n6_; have NB262_245 := n7_; have NB246_262 := n8_; have NB262_246 := n9_; clear n0_ n1_ n2_ n3_ n4_ n5_ n6_ n7_ n8_ n9_ hb hbox hg
     refine hK.out _ _ ⟨(za BK245.out 0).trans rfl, (za BK245.out 1).trans rfl, (za BK246.out 0).trans rfl, (za BK246.out 1).trans rfl⟩ (fun hHeld => ?_)
     clear hK K
     refine qh (a' := ?_) ?_ ?_
     rotate_left
     ·show Act.put _ (some 6) _ = _; simp only [Act.put, List.setIfInBounds_toArray, List.set_cons_zero, List.set_cons_succ, zi, zj]; rfl
     refine qW (i := 1) (N := some 29) #[true, true, true, false, false, false, false, false, true, false, false] rfl rfl (qp HT_.out (by kernel_rfl)) (by decide) (fun K hK => ?_)
     refine qP Try.func13 (by kernel_rfl) rfl #[.agg #[.int .i64 a0_0, .slice A0_1 l0_1.length c0_1]] (by rfl) rfl rfl sqM ?_
     with_reducible refine (zl.calls k a0_0 _ _ l0_1 t249 t250 _ ?side1 ?side2 A19.out).mono ?_
     (case side1 => exact sqC (Kd.zF HR0_1.out HB.out))
     (case side2 => exact HC0_1.out)
     rintro e w35 ⟨v251, rfl, ho0, hb⟩
     refine ⟨_, rfl, ?_⟩
     have n0_ := Aside0.mk (Kd.qd ho0 (zA sqB))
     have n1_ := Aside0.mk (zb (g := gb245) (o := .cells #[.int .i64 a0_0, .slice A0_1 l0_1.length c0_1] 24 (0, 0)) (sqK BK245.out) hb)
     have n2_ := Aside0.mk (zb (g := gb246) (o := .cells #[.int .i64 a1_0, .slice A1_1 l1_1.length c1_1] 24 (0, 0)) (sqK BK246.out) hb)
     have n3_ := Aside0.mk (zb (g := gb262) (o := .cells #[.int .i64 0, .slice none 0 0] 26 (0, 0)) (sqK BK262.out) hb)
     have n4_ := Aside0.mk (ze sqB hb)
     clear BK245 BK246 BK262 HB; have HO252 := n0_; have BK245 := n1_; have BK246 := n2_; have BK262 := n3_; have HB := n4_; clear n0_ n1_ n2_ n3_ n4_; (try clear hb); (try clear hb2); (try clear hk); (try clear hi); (try clear ho0)
     refine hK.out _ _ ⟨(za BK245.out 0).trans rfl, (za BK245.out 1).trans rfl, (za BK246.out 0).trans rfl, (za BK246.out 1).trans rfl⟩ (fun hHeld => ?_)
     clear hK K
     refine qh (a' := ?_) ?_ ?_
     rotate_left
     ·show Act.put _ (some 29) _ = _; simp only [Act.put, List.setIfInBounds_toArray, List.set_cons_zero, List.set_cons_succ, zi, zj]; rfl
     refine qW (i := 3) (N := some 31) #[true, true, true, true, false, false, false, false, true, false, false] rfl rfl (qp HT_.out (by kernel_rfl)) (by decide) (fun K hK => ?_)
     refine qP Try.func13 (by kernel_rfl) rfl #[.agg #[.int .i64 a1_0, .slice A1_1 l1_1.length c1_1]] (by rfl) rfl rfl sqM ?_
     with_reducible refine (zl.calls k a1_0 _ _ l1_1 t253 t254 _ ?side1 ?side2 A20.out).mono ?_
     (case side1 => exact sqC (Kd.zF HR1_1.out HB.out))
     (case side2 => exact HC1_1.out)
     rintro e w36 ⟨v255, rfl, ho0, hb⟩
     refine ⟨_, rfl, ?_⟩
     have n0_ := Aside0.mk (Kd.zw (sqR HO252.out) (Kd.zI ho0) hb)
     have n1_ := Aside0.mk (Kd.qd (Kd.zH ho0 (Kd.qc (sqR HO252.out))) (zA sqB))
     have n2_ := Aside0.mk (zb (g := gb245) (o := .cells #[.int .i64 a0_0, .slice A0_1 l0_1.length c0_1] 24 (0, 0)) (sqK BK245.out) hb)
     have n3_ := Aside0.mk (zb (g := gb246) (o := .cells #[.int .i64 a1_0, .slice A1_1 l1_1.length c1_1] 24 (0, 0)) (sqK BK246.out) hb)
     have n4_ := Aside0.mk (zb (g := gb262) (o := .cells #[.int .i64 0, .slice none 0 0] 26 (0, 0)) (sqK BK262.out) hb)
     have n5_ := Aside0.mk (ze sqB hb)
     clear HO252 BK245 BK246 BK262 HB; have HO252 := n0_; have HO256 := n1_; have BK245 := n2_; have BK246 := n3_; have BK262 := n4_; have HB := n5_; clear n0_ n1_ n2_ n3_ n4_ n5_; (try clear hb); (try clear hb2); (try clear hk); (try clear hi); (try clear ho0)
     obtain ⟨Ao37, co37, eo37⟩ := Kd.zX HO252.out
     (first | subst eo37 | (injection eo37 with f1_ f2_ f3_; have f4_ := f1_.symm; have f5_ := f3_.symm; clear f1_ f2_ f3_; subst f4_; subst f5_))
     obtain ⟨Ao38, co38, eo38⟩ := Kd.zX HO256.out
     (first | subst eo38 | (injection eo38 with f1_ f2_ f3_; have f4_ := f1_.symm; have f5_ := f3_.symm; clear f1_ f2_ f3_; subst f4_; subst f5_))
     refine hK.out _ _ ⟨(za BK245.out 0).trans rfl, (za BK245.out 1).trans rfl, (za BK246.out 0).trans rfl, (za BK246.out 1).trans rfl⟩ (fun hHeld => ?_)
     clear hK K
     refine qh (a' := ?_) ?_ ?_
     rotate_left
     ·show Act.put _ (some 31) _ = _; simp only [Act.put, List.setIfInBounds_toArray, List.set_cons_zero, List.set_cons_succ, zi, zj]; rfl
     refine qW (i := 4) (N := some 32) #[true, true, true, true, true, false, false, false, true, false, false] rfl rfl (qp HT_.out (by kernel_rfl)) (by decide) (fun K hK => ?_)
     refine qP Try.func26 (by kernel_rfl) rfl #[.agg #[.int .i64 t249, .slice Ao37 t250.length co37], .agg #[.int .i64 t253, .slice Ao38 t254.length co38]] (by rfl) rfl rfl sqM ?_
     with_reducible refine (zf.calls k t249 _ _ t250 t253 _ _ t254 t257 t258 t261 _ ?side1 ?side2 ?side3 ?side4 A21.out).mono ?_
     (case side1 => exact sqC (Kd.zq HO252.out).2.2)
     (case side2 => exact (Kd.zq HO252.out).2.1)
     (case side3 => exact sqC (Kd.zq HO256.out).2.2)
     (case side4 => exact (Kd.zq HO256.out).2.1)
     rintro e w39 ⟨v259, rfl, ho0, hb⟩
     refine ⟨_, rfl, ?_⟩
     have n0_ := Aside0.mk (Kd.zw (sqR HO252.out) (Kd.zI ho0) hb)
     have n1_ := Aside0.mk (Kd.zw (sqR HO256.out) (Kd.zI ho0) hb)
     have n2_ := Aside0.mk (Kd.qd (Kd.zH (Kd.zH ho0 (Kd.qc (sqR HO252.out))) (Kd.qc (sqR HO256.out))) (zA sqB))
     have n3_ := Aside0.mk (zb (g := gb245) (o := .cells #[.int .i64 a0_0, .slice A0_1 l0_1.length c0_1] 24 (0, 0)) (sqK BK245.out) hb)
     have n4_ := Aside0.mk (zb (g := gb246) (o := .cells #[.int .i64 a1_0, .slice A1_1 l1_1.length c1_1] 24 (0, 0)) (sqK BK246.out) hb)
     have n5_ := Aside0.mk (zb (g := gb262) (o := .cells #[.int .i64 0, .slice none 0 0] 26 (0, 0)) (sqK BK262.out) hb)
     have n6_ := Aside0.mk (ze sqB hb)
     clear HO252 HO256 BK245 BK246 BK262 HB; have HO252 := n0_; have HO256 := n1_; have HO260 := n2_; have BK245 := n3_; have BK246 := n4_; have BK262 := n5_; have HB := n6_; clear n0_ n1_ n2_ n3_ n4_ n5_ n6_; (try clear hb); (try clear hb2); (try clear hk); (try clear hi); (try clear ho0)
     refine hK.out _ _ ⟨(za BK245.out 0).trans rfl, (za BK245.out 1).trans rfl, (za BK246.out 0).trans rfl, (za BK246.out 1).trans rfl⟩ (fun hHeld => ?_)
     clear hK K
     refine qh (a' := ?_) ?_ ?_
     rotate_left
     ·show Act.put _ (some 32) _ = _; simp only [Act.put, List.setIfInBounds_toArray, List.set_cons_zero, List.set_cons_succ, zi, zj]; rfl
     refine zx (i := 5) (N := some 27) (v := ?_) (a' := ?_) #[true, true, true, true, true, true, false, false, true, false, false] rfl rfl (zp HT_.out (by kernel_rfl)) (fun _ _ _ h => h) (Or.inl ⟨by rfl, ?_⟩) ?_ ?_
     rotate_left
     ·intro w'; go_simp; with_reducible rfl
     rotate_left
     ·simp only [Act.put, List.setIfInBounds_toArray, List.set_cons_zero, List.set_cons_succ, zi, zj]; rfl
     refine zx (i := 6) (N := some 33) (v := ?_) (a' := ?_) #[true, true, true, true, true, true, true, false, true, false, false] rfl rfl (zp HT_.out (by kernel_rfl)) (fun _ _ _ h => h) (Or.inl ⟨by rfl, ?_⟩) ?_ ?_
     rotate_left
     ·intro w'; go_simp; with_reducible rfl
     rotate_left
     ·simp only [Act.put, List.setIfInBounds_toArray, List.set_cons_zero, List.set_cons_succ, zi, zj]; rfl
     refine zx (i := 7) (N := some 34) (v := ?_) (a' := ?_) #[true, true, true, true, true, true, true, true, true, false, false] rfl rfl (zp HT_.out (by kernel_rfl)) (fun _ _ _ h => h) (Or.inl ⟨by rfl, ?_⟩) ?_ ?_
     rotate_left
     ·intro w'; go_simp; with_reducible rfl
     rotate_left
     ·simp only [Act.put, List.setIfInBounds_toArray, List.set_cons_zero, List.set_cons_succ, zi, zj]; rfl
     exact qh (by simp only [ja, Act.put, List.setIfInBounds_toArray, List.set_cons_zero, List.set_cons_succ]) (hCont (.slice Ao37 t250.length co37, .slice Ao38 t254.length co38, v259, gb262) _ ⟨hHeld, (by refine sqR ?_; exact Kd.zo HO252.out (fun _ hk => by first | exact ⟨hk.1.2, hk.2⟩ | (refine ⟨?_, ?_⟩ <;> intro e_ <;> simp only [e_, ne_eq, not_true_eq_false, and_false, false_and] at hk))), (by refine sqR ?_; exact Kd.zo HO256.out (fun _ hk => by first | exact ⟨hk.1.2, hk.2⟩ | (refine ⟨?_, ?_⟩ <;> intro e_ <;> simp only [e_, ne_eq, not_true_eq_false, and_false, false_and] at hk))), (by refine sqR ?_; exact Kd.zo HO260.out (fun _ hk => by first | exact ⟨hk.1.2, hk.2⟩ | (refine ⟨?_, ?_⟩ <;> intro e_ <;> simp only [e_, ne_eq, not_true_eq_false, and_false, false_and] at hk))), (sqK BK245.out), (sqK BK246.out), (sqK BK262.out), GW262.out, GE262.out, NB245_262.out, NB262_245.out, NB246_262.out, NB262_246.out, sqB⟩)
   rintro ⟨v251, v255, v259, gb262⟩ w40 ⟨hS_, h0_, h1_, h2_, h3_, h4_, h5_, h6_, h7_, h8_, h9_, h10_, h11_, h12_⟩
   have n0_ : Aside0 (Kd.R (Kd.int .i64) 3 w40 w.heap.size (fun k_ => some k_ ≠ (v255 : Value).ownBlock ∧ some k_ ≠ (v259 : Value).ownBlock) v251 t250) := ⟨h0_⟩
   have n1_ : Aside0 (Kd.R (Kd.int .i64) 3 w40 w.heap.size (fun k_ => some k_ ≠ (v251 : Value).ownBlock ∧ some k_ ≠ (v259 : Value).ownBlock) v255 t254) := ⟨h1_⟩
   have n2_ : Aside0 (Kd.R (Kd.int .i64) 3 w40 w.heap.size (fun k_ => some k_ ≠ (v251 : Value).ownBlock ∧ some k_ ≠ (v255 : Value).ownBlock) v259 t258) := ⟨h2_⟩
   have n3_ : Aside0 (w40.heap[gb245]? = some (.cells #[.int .i64 a0_0, .slice A0_1 l0_1.length c0_1] 24 (0, 0))) := ⟨h3_⟩
   have n4_ : Aside0 (w40.heap[gb246]? = some (.cells #[.int .i64 a1_0, .slice A1_1 l1_1.length c1_1] 24 (0, 0))) := ⟨h4_⟩
   have n5_ : Aside0 (w40.heap[gb262]? = some (.cells #[.int .i64 0, .slice none 0 0] 26 (0, 0))) := ⟨h5_⟩
   have n6_ : Aside0 (w.heap.size ≤ gb262) := ⟨h6_⟩
   have n7_ : Aside0 (w.heap.size ≤ gb262) := ⟨h7_⟩
   have n8_ : Aside0 (gb245 ≠ gb262) := ⟨h8_⟩
   have n9_ : Aside0 (gb262 ≠ gb245) := ⟨h9_⟩
   have n10_ : Aside0 (gb246 ≠ gb262) := ⟨h10_⟩
   have n11_ : Aside0 (gb262 ≠ gb246) := ⟨h11_⟩
   have n12_ : Aside0 (Below w.heap.size w w40) := ⟨h12_⟩
   clear BK245 BK246 HB h0_ h1_ h2_ h3_ h4_ h5_ h6_ h7_ h8_ h9_ h10_ h11_ h12_; have HO252 := n0_; have HO256 := n1_; have HO260 := n2_; have BK245 := n3_; have BK246 := n4_; have BK262 := n5_; have GW262 := n6_; have GE262 := n7_; have NB245_262 := n8_; have NB262_245 := n9_; have NB246_262 := n10_; have NB262_246 := n11_; have HB := n12_; clear n0_ n1_ n2_ n3_ n4_ n5_ n6_ n7_ n8_ n9_ n10_ n11_ n12_
   have hHeld : w40.cell? ⟨gb245, 0, none⟩ = some (.int .i64 a0_0) ∧ w40.cell? ⟨gb245, 1, none⟩ = some (.slice A0_1 l0_1.length c0_1) ∧ w40.cell? ⟨gb246, 0, none⟩ = some (.int .i64 a1_0) ∧ w40.cell? ⟨gb246, 1, none⟩ = some (.slice A1_1 l1_1.length c1_1) := hS_
   obtain ⟨Ao42, co42, eo42⟩ := Kd.zX HO260.out
   (first | subst eo42 | (injection eo42 with f1_ f2_ f3_; have f4_ := f1_.symm; have f5_ := f3_.symm; clear f1_ f2_ f3_; subst f4_; subst f5_))
   refine qh (a' := ?_) ?_ ?_
   rotate_left
   ·simp only [ja, Act.put, List.setIfInBounds_toArray, List.set_cons_zero, List.set_cons_succ]
    rfl
   refine qW (i := 9) (N := none) #[true, true, true, true, true, true, true, true, true, true, false] rfl rfl (qp HT_.out (by kernel_rfl)) (by decide) (fun K hK => ?_)
   have hs41 : w40.cell? ⟨gb262, 0, none⟩ = some (.int .i64 0) := (za BK262.out 0).trans rfl
   have hfs41 := zd BK262.out 0
   have hns41_0 := NB245_262.out
   have hns41_1 := NB246_262.out
   have hms41_0 := NB262_245.out
   have hms41_1 := NB262_246.out
   have hs43 : w40.cell? ⟨gb262, 1, none⟩ = some (.slice none 0 0) := (za BK262.out 1).trans rfl
   have hfs43 := zd BK262.out 1
   have hns43_0 := NB245_262.out
   have hns43_1 := NB246_262.out
   have hms43_0 := NB262_245.out
   have hms43_1 := NB262_246.out
   refine Z2 (w1 := ?_) (by rfl) rfl ?_ ?_
   rotate_left
   ·go_simp
    rfl
   refine hK.out _ _ ⟨((cell_far (p := ⟨gb262, _, none⟩) NB245_262.out _).trans (((cell_far (p := ⟨gb262, _, none⟩) NB245_262.out _).trans (hHeld.1)))), ((cell_far (p := ⟨gb262, _, none⟩) NB245_262.out _).trans (((cell_far (p := ⟨gb262, _, none⟩) NB245_262.out _).trans (hHeld.2.1)))), ((cell_far (p := ⟨gb262, _, none⟩) NB246_262.out _).trans (((cell_far (p := ⟨gb262, _, none⟩) NB246_262.out _).trans (hHeld.2.2.1)))), ((cell_far (p := ⟨gb262, _, none⟩) NB246_262.out _).trans (((cell_far (p := ⟨gb262, _, none⟩) NB246_262.out _).trans (hHeld.2.2.2))))⟩ (fun hHeld => ?_)
   clear hK K
   refine zx (i := 10) (N := some 7) (v := ?_) (a' := ?_) #[true, true, true, true, true, true, true, true, true, true, true] rfl rfl (zp HT_.out (by kernel_rfl)) (fun _ _ _ h => h) (Or.inl ⟨by rfl, ?_⟩) ?_ ?_
   rotate_left
   ·intro w'; go_simp; with_reducible rfl
   rotate_left
   ·simp only [Act.put, List.setIfInBounds_toArray, List.set_cons_zero, List.set_cons_succ, zi, zj]; rfl
   refine ji (qO HT_.out (by kernel_rfl)) ?_
   have hnb44 := NB245_262.out
   have hnc44 := NB262_245.out
   have hcz45_0 : w40.cell? ⟨gb245, 0, none⟩ = some (.int .i64 a0_0) := (za BK245.out 0).trans rfl
   have hcz45_1 : w40.cell? ⟨gb245, 1, none⟩ = some (.slice A0_1 l0_1.length c0_1) := (za BK245.out 1).trans rfl
   have hfz45_0 := zd BK245.out 0; have hfz45_1 := zd BK245.out 1
   go_upto_region 12 with (first | ((with_reducible refine zn (f := 13) rfl ?_); refine zN (some 36) rfl rfl Try.func13 (by kernel_rfl) rfl #[.agg #[.int .i64 a0_0, .slice A0_1 l0_1.length c0_1]] rfl sqM ?_; (with_reducible refine (zl.calls k a0_0 _ _ l0_1 t263 t264 _ ?side1 ?side2 A22.out).mono ?_); (case side1 => exact Kd.zF HR0_1.out sqB); (case side2 => exact HC0_1.out); rintro e w46 ⟨v265, rfl, ho0, hb⟩; refine ⟨_, rfl, ?_⟩; have n0_ := Aside0.mk (Kd.zw (by refine sqR ?_; exact (Kd.zo (Kd.zB (p := ⟨gb262, 1, none⟩) (Kd.zB (p := ⟨gb262, 0, none⟩) (Kd.zJ HO252.out BK262.out (by decide)) (fun _ hk => hk.2) (.int .i64 t257)) (fun _ hk => hk.2) (.slice Ao42 t258.length co42)) (fun _ h_ => h_.1))) (Kd.zI ho0) hb); have n1_ := Aside0.mk (Kd.zw (by refine sqR ?_; exact (Kd.zo (Kd.zB (p := ⟨gb262, 1, none⟩) (Kd.zB (p := ⟨gb262, 0, none⟩) (Kd.zJ HO256.out BK262.out (by decide)) (fun _ hk => hk.2) (.int .i64 t257)) (fun _ hk => hk.2) (.slice Ao42 t258.length co42)) (fun _ h_ => h_.1))) (Kd.zI ho0) hb); have n2_ := Aside0.mk (Kd.zw (by refine sqR ?_; exact (Kd.zo (Kd.zB (p := ⟨gb262, 1, none⟩) (Kd.zB (p := ⟨gb262, 0, none⟩) (Kd.zJ HO260.out BK262.out (by decide)) (fun _ hk => hk.2) (.int .i64 t257)) (fun _ hk => hk.2) (.slice Ao42 t258.length co42)) (fun _ h_ => h_.1))) (Kd.zI ho0) hb); have n3_ := Aside0.mk (Kd.qd (Kd.zH (Kd.zH (Kd.zH ho0 (Kd.qc (by refine sqR ?_; exact (Kd.zo (Kd.zB (p := ⟨gb262, 1, none⟩) (Kd.zB (p := ⟨gb262, 0, none⟩) (Kd.zJ HO252.out BK262.out (by decide)) (fun _ hk => hk.2) (.int .i64 t257)) (fun _ hk => hk.2) (.slice Ao42 t258.length co42)) (fun _ h_ => h_.1))))) (Kd.qc (by refine sqR ?_; exact (Kd.zo (Kd.zB (p := ⟨gb262, 1, none⟩) (Kd.zB (p := ⟨gb262, 0, none⟩) (Kd.zJ HO256.out BK262.out (by decide)) (fun _ hk => hk.2) (.int .i64 t257)) (fun _ hk => hk.2) (.slice Ao42 t258.length co42)) (fun _ h_ => h_.1))))) (Kd.qc (by refine sqR ?_; exact (Kd.zo (Kd.zB (p := ⟨gb262, 1, none⟩) (Kd.zB (p := ⟨gb262, 0, none⟩) (Kd.zJ HO260.out BK262.out (by decide)) (fun _ hk => hk.2) (.int .i64 t257)) (fun _ hk => hk.2) (.slice Ao42 t258.length co42)) (fun _ h_ => h_.1))))) (zA sqB)); have n4_ := Aside0.mk (zb (g := gb245) (o := .cells #[.int .i64 a0_0, .slice A0_1 l0_1.length c0_1] 24 (0, 0)) (by refine sqK ?_; refine zD ?_ NB245_262.out _; refine sqK ?_; refine zD ?_ NB245_262.out _; refine sqK ?_; exact BK245.out) hb); have n5_ := Aside0.mk (zb (g := gb246) (o := .cells #[.int .i64 a1_0, .slice A1_1 l1_1.length c1_1] 24 (0, 0)) (by refine sqK ?_; refine zD ?_ NB246_262.out _; refine sqK ?_; refine zD ?_ NB246_262.out _; refine sqK ?_; exact BK246.out) hb); have n6_ := Aside0.mk (zb (g := gb262) (o := .cells #[.int .i64 t257, .slice Ao42 t258.length co42] 26 (0, 0)) (by refine sqK ?_; refine zR (cs := #[.int .i64 t257, .slice none 0 0]) ?_ 1 _ rfl; refine sqK ?_; refine zR (cs := #[.int .i64 0, .slice none 0 0]) ?_ 0 _ rfl; refine sqK ?_; exact BK262.out) hb); have n7_ := Aside0.mk (ze sqB hb); clear HO252; clear HO256; clear HO260; clear BK245; clear BK246; clear BK262; clear HB; have HO252 := n0_; have HO256 := n1_; have HO260 := n2_; have HO266 := n3_; have BK245 := n4_; have BK246 := n5_; have BK262 := n6_; have HB := n7_; clear n0_ n1_ n2_ n3_ n4_ n5_ n6_ n7_; (try clear hb); (try clear hb2); (try clear hk); (try clear hi); (try clear ho0)) | ((with_reducible refine zE (N := 8) rfl ?_); refine zC ?hg (N := 8) ?hd (cs := #[.int .i64 0, .slice none 0 0]) (t := 26) ?hr ?_; (case hd => rfl); (case hg => rfl); (case hr => exact sqG); intro gb267 hg w47 hbox hb; have n0_ := Aside0.mk (Kd.zu (sqR HO252.out) hb); have n1_ := Aside0.mk (Kd.zu (sqR HO256.out) hb); have n2_ := Aside0.mk (Kd.zu (sqR HO260.out) hb); have n3_ := Aside0.mk (Kd.zu (sqR HO266.out) hb); have n4_ := Aside0.mk (zb (g := gb245) (o := .cells #[.int .i64 a0_0, .slice A0_1 l0_1.length c0_1] 24 (0, 0)) (sqK BK245.out) hb); have n5_ := Aside0.mk (zb (g := gb246) (o := .cells #[.int .i64 a1_0, .slice A1_1 l1_1.length c1_1] 24 (0, 0)) (sqK BK246.out) hb); have n6_ := Aside0.mk (zb (g := gb262) (o := .cells #[.int .i64 t257, .slice Ao42 t258.length co42] 26 (0, 0)) (sqK BK262.out) hb); have n7_ := Aside0.mk (ze sqB hb); have n8_ := Aside0.mk (hbox); have n9_ := Aside0.mk ((sqS hg : w.heap.size ≤ gb267)); have n10_ := Aside0.mk ((sqS hg : w.heap.size ≤ gb267)); have n11_ := Aside0.mk ((by rw [hg]; exact Nat.ne_of_lt (zt (g := gb245) (o := .cells #[.int .i64 a0_0, .slice A0_1 l0_1.length c0_1] 24 (0, 0)) (sqK BK245.out)) : gb245 ≠ gb267)); have n12_ := Aside0.mk ((by rw [hg]; exact Nat.ne_of_gt (zt (g := gb245) (o := .cells #[.int .i64 a0_0, .slice A0_1 l0_1.length c0_1] 24 (0, 0)) (sqK BK245.out)) : gb267 ≠ gb245)); have n13_ := Aside0.mk ((by rw [hg]; exact Nat.ne_of_lt (zt (g := gb246) (o := .cells #[.int .i64 a1_0, .slice A1_1 l1_1.length c1_1] 24 (0, 0)) (sqK BK246.out)) : gb246 ≠ gb267)); have n14_ := Aside0.mk ((by rw [hg]; exact Nat.ne_of_gt (zt (g := gb246) (o := .cells #[.int .i64 a1_0, .slice A1_1 l1_1.length c1_1] 24 (0, 0)) (sqK BK246.out)) : gb267 ≠ gb246)); have n15_ := Aside0.mk ((by rw [hg]; exact Nat.ne_of_lt (zt (g := gb262) (o := .cells #[.int .i64 t257, .slice Ao42 t258.length co42] 26 (0, 0)) (sqK BK262.out)) : gb262 ≠ gb267)); have n16_ := Aside0.mk ((by rw [hg]; exact Nat.ne_of_gt (zt (g := gb262) (o := .cells #[.int .i64 t257, .slice Ao42 t258.length co42] 26 (0, 0)) (sqK BK262.out)) : gb267 ≠ gb262)); clear HO252; clear HO256; clear HO260; clear HO266; clear BK245; clear BK246; clear BK262; clear HB; have HO252 := n0_; have HO256 := n1_; have HO260 := n2_; have HO266 := n3_; have BK245 := n4_; have BK246 := n5_; have BK262 := n6_; have HB := n7_; have BK267 := n8_; have GW267 := n9_; have GE267 := n10_; have NB245_267 := n11_; have NB267_245 := n12_; have NB246_267 := n13_; have NB267_246 := n14_; have NB262_267 := n15_; have NB267_262 := n16_; clear n0_ n1_ n2_ n3_ n4_ n5_ n6_ n7_ n8_ n9_ n10_ n11_ n12_ n13_ n14_ n15_ n16_; clear hb hbox hg; have hnb48 := NB267_245.out; have hnc48 := NB245_267.out; have hnb49 := NB267_246.out; have hnc49 := NB246_267.out; have hnb50 := NB267_262.out; have hnc50 := NB262_267.out; have hcz51_0 : w47.cell? ⟨gb267, 0, none⟩ = some (.int .i64 0) := (za BK267.out 0).trans rfl; have hcz51_1 : w47.cell? ⟨gb267, 1, none⟩ = some (.slice none 0 0) := (za BK267.out 1).trans rfl; have hfz51_0 := zd BK267.out 0; have hfz51_1 := zd BK267.out 1; obtain ⟨Ao52, co52, eo52⟩ := Kd.zX HO266.out; subst eo52; have hnb53 := NB246_262.out; have hnc53 := NB262_246.out; have hcz54_0 : w47.cell? ⟨gb246, 0, none⟩ = some (.int .i64 a1_0) := (za BK246.out 0).trans rfl; have hcz54_1 : w47.cell? ⟨gb246, 1, none⟩ = some (.slice A1_1 l1_1.length c1_1) := (za BK246.out 1).trans rfl; have hfz54_0 := zd BK246.out 0; have hfz54_1 := zd BK246.out 1) | ((with_reducible refine zn (f := 13) rfl ?_); refine zN (some 38) rfl rfl Try.func13 (by kernel_rfl) rfl #[.agg #[.int .i64 a1_0, .slice A1_1 l1_1.length c1_1]] rfl sqM ?_; (with_reducible refine (zl.calls k a1_0 _ _ l1_1 t268 t269 _ ?side1 ?side2 A23.out).mono ?_); (case side1 => exact Kd.zF HR1_1.out sqB); (case side2 => exact HC1_1.out); rintro e w55 ⟨v270, rfl, ho0, hb⟩; refine ⟨_, rfl, ?_⟩; have n0_ := Aside0.mk (Kd.zw (by refine sqR ?_; exact (Kd.zo (Kd.zB (p := ⟨gb267, 1, none⟩) (Kd.zB (p := ⟨gb267, 0, none⟩) (Kd.zJ HO252.out BK267.out (by decide)) (fun _ hk => hk.2) (.int .i64 t263)) (fun _ hk => hk.2) (.slice Ao52 t264.length co52)) (fun _ h_ => h_.1))) (Kd.zI ho0) hb); have n1_ := Aside0.mk (Kd.zw (by refine sqR ?_; exact (Kd.zo (Kd.zB (p := ⟨gb267, 1, none⟩) (Kd.zB (p := ⟨gb267, 0, none⟩) (Kd.zJ HO256.out BK267.out (by decide)) (fun _ hk => hk.2) (.int .i64 t263)) (fun _ hk => hk.2) (.slice Ao52 t264.length co52)) (fun _ h_ => h_.1))) (Kd.zI ho0) hb); have n2_ := Aside0.mk (Kd.zw (by refine sqR ?_; exact (Kd.zo (Kd.zB (p := ⟨gb267, 1, none⟩) (Kd.zB (p := ⟨gb267, 0, none⟩) (Kd.zJ HO260.out BK267.out (by decide)) (fun _ hk => hk.2) (.int .i64 t263)) (fun _ hk => hk.2) (.slice Ao52 t264.length co52)) (fun _ h_ => h_.1))) (Kd.zI ho0) hb); have n3_ := Aside0.mk (Kd.zw (by refine sqR ?_; exact (Kd.zo (Kd.zB (p := ⟨gb267, 1, none⟩) (Kd.zB (p := ⟨gb267, 0, none⟩) (Kd.zJ HO266.out BK267.out (by decide)) (fun _ hk => hk.2) (.int .i64 t263)) (fun _ hk => hk.2) (.slice Ao52 t264.length co52)) (fun _ h_ => h_.1))) (Kd.zI ho0) hb); have n4_ := Aside0.mk (Kd.qd (Kd.zH (Kd.zH (Kd.zH (Kd.zH ho0 (Kd.qc (by refine sqR ?_; exact (Kd.zo (Kd.zB (p := ⟨gb267, 1, none⟩) (Kd.zB (p := ⟨gb267, 0, none⟩) (Kd.zJ HO252.out BK267.out (by decide)) (fun _ hk => hk.2) (.int .i64 t263)) (fun _ hk => hk.2) (.slice Ao52 t264.length co52)) (fun _ h_ => h_.1))))) (Kd.qc (by refine sqR ?_; exact (Kd.zo (Kd.zB (p := ⟨gb267, 1, none⟩) (Kd.zB (p := ⟨gb267, 0, none⟩) (Kd.zJ HO256.out BK267.out (by decide)) (fun _ hk => hk.2) (.int .i64 t263)) (fun _ hk => hk.2) (.slice Ao52 t264.length co52)) (fun _ h_ => h_.1))))) (Kd.qc (by refine sqR ?_; exact (Kd.zo (Kd.zB (p := ⟨gb267, 1, none⟩) (Kd.zB (p := ⟨gb267, 0, none⟩) (Kd.zJ HO260.out BK267.out (by decide)) (fun _ hk => hk.2) (.int .i64 t263)) (fun _ hk => hk.2) (.slice Ao52 t264.length co52)) (fun _ h_ => h_.1))))) (Kd.qc (by refine sqR ?_; exact (Kd.zo (Kd.zB (p := ⟨gb267, 1, none⟩) (Kd.zB (p := ⟨gb267, 0, none⟩) (Kd.zJ HO266.out BK267.out (by decide)) (fun _ hk => hk.2) (.int .i64 t263)) (fun _ hk => hk.2) (.slice Ao52 t264.length co52)) (fun _ h_ => h_.1))))) (zA sqB)); have n5_ := Aside0.mk (zb (g := gb245) (o := .cells #[.int .i64 a0_0, .slice A0_1 l0_1.length c0_1] 24 (0, 0)) (by refine sqK ?_; refine zD ?_ NB245_267.out _; refine sqK ?_; refine zD ?_ NB245_267.out _; refine sqK ?_; exact BK245.out) hb); have n6_ := Aside0.mk (zb (g := gb246) (o := .cells #[.int .i64 a1_0, .slice A1_1 l1_1.length c1_1] 24 (0, 0)) (by refine sqK ?_; refine zD ?_ NB246_267.out _; refine sqK ?_; refine zD ?_ NB246_267.out _; refine sqK ?_; exact BK246.out) hb); have n7_ := Aside0.mk (zb (g := gb262) (o := .cells #[.int .i64 t257, .slice Ao42 t258.length co42] 26 (0, 0)) (by refine sqK ?_; refine zD ?_ NB262_267.out _; refine sqK ?_; refine zD ?_ NB262_267.out _; refine sqK ?_; exact BK262.out) hb); have n8_ := Aside0.mk (zb (g := gb267) (o := .cells #[.int .i64 t263, .slice Ao52 t264.length co52] 26 (0, 0)) (by refine sqK ?_; refine zR (cs := #[.int .i64 t263, .slice none 0 0]) ?_ 1 _ rfl; refine sqK ?_; refine zR (cs := #[.int .i64 0, .slice none 0 0]) ?_ 0 _ rfl; refine sqK ?_; exact BK267.out) hb); have n9_ := Aside0.mk (ze sqB hb); clear HO252; clear HO256; clear HO260; clear HO266; clear BK245; clear BK246; clear BK262; clear BK267; clear HB; have HO252 := n0_; have HO256 := n1_; have HO260 := n2_; have HO266 := n3_; have HO271 := n4_; have BK245 := n5_; have BK246 := n6_; have BK262 := n7_; have BK267 := n8_; have HB := n9_; clear n0_ n1_ n2_ n3_ n4_ n5_ n6_ n7_ n8_ n9_; (try clear hb); (try clear hb2); (try clear hk); (try clear hi); (try clear ho0)) | ((with_reducible refine zE (N := 9) rfl ?_); refine zC ?hg (N := 9) ?hd (cs := #[.int .i64 0, .slice none 0 0]) (t := 26) ?hr ?_; (case hd => rfl); (case hg => rfl); (case hr => exact sqG); intro gb272 hg w56 hbox hb; have n0_ := Aside0.mk (Kd.zu (sqR HO252.out) hb); have n1_ := Aside0.mk (Kd.zu (sqR HO256.out) hb); have n2_ := Aside0.mk (Kd.zu (sqR HO260.out) hb); have n3_ := Aside0.mk (Kd.zu (sqR HO266.out) hb); have n4_ := Aside0.mk (Kd.zu (sqR HO271.out) hb); have n5_ := Aside0.mk (zb (g := gb245) (o := .cells #[.int .i64 a0_0, .slice A0_1 l0_1.length c0_1] 24 (0, 0)) (sqK BK245.out) hb); have n6_ := Aside0.mk (zb (g := gb246) (o := .cells #[.int .i64 a1_0, .slice A1_1 l1_1.length c1_1] 24 (0, 0)) (sqK BK246.out) hb); have n7_ := Aside0.mk (zb (g := gb262) (o := .cells #[.int .i64 t257, .slice Ao42 t258.length co42] 26 (0, 0)) (sqK BK262.out) hb); have n8_ := Aside0.mk (zb (g := gb267) (o := .cells #[.int .i64 t263, .slice Ao52 t264.length co52] 26 (0, 0)) (sqK BK267.out) hb); have n9_ := Aside0.mk (ze sqB hb); have n10_ := Aside0.mk (hbox); have n11_ := Aside0.mk ((sqS hg : w.heap.size ≤ gb272)); have n12_ := Aside0.mk ((sqS hg : w.heap.size ≤ gb272)); have n13_ := Aside0.mk ((by rw [hg]; exact Nat.ne_of_lt (zt (g := gb245) (o := .cells #[.int .i64 a0_0, .slice A0_1 l0_1.length c0_1] 24 (0, 0)) (sqK BK245.out)) : gb245 ≠ gb272)); have n14_ := Aside0.mk ((by rw [hg]; exact Nat.ne_of_gt (zt (g := gb245) (o := .cells #[.int .i64 a0_0, .slice A0_1 l0_1.length c0_1] 24 (0, 0)) (sqK BK245.out)) : gb272 ≠ gb245)); have n15_ := Aside0.mk ((by rw [hg]; exact Nat.ne_of_lt (zt (g := gb246) (o := .cells #[.int .i64 a1_0, .slice A1_1 l1_1.length c1_1] 24 (0, 0)) (sqK BK246.out)) : gb246 ≠ gb272)); have n16_ := Aside0.mk ((by rw [hg]; exact Nat.ne_of_gt (zt (g := gb246) (o := .cells #[.int .i64 a1_0, .slice A1_1 l1_1.length c1_1] 24 (0, 0)) (sqK BK246.out)) : gb272 ≠ gb246)); have n17_ := Aside0.mk ((by rw [hg]; exact Nat.ne_of_lt (zt (g := gb262) (o := .cells #[.int .i64 t257, .slice Ao42 t258.length co42] 26 (0, 0)) (sqK BK262.out)) : gb262 ≠ gb272)); have n18_ := Aside0.mk ((by rw [hg]; exact Nat.ne_of_gt (zt (g := gb262) (o := .cells #[.int .i64 t257, .slice Ao42 t258.length co42] 26 (0, 0)) (sqK BK262.out)) : gb272 ≠ gb262)); have n19_ := Aside0.mk ((by rw [hg]; exact Nat.ne_of_lt (zt (g := gb267) (o := .cells #[.int .i64 t263, .slice Ao52 t264.length co52] 26 (0, 0)) (sqK BK267.out)) : gb267 ≠ gb272)); have n20_ := Aside0.mk ((by rw [hg]; exact Nat.ne_of_gt (zt (g := gb267) (o := .cells #[.int .i64 t263, .slice Ao52 t264.length co52] 26 (0, 0)) (sqK BK267.out)) : gb272 ≠ gb267)); clear HO252; clear HO256; clear HO260; clear HO266; clear HO271; clear BK245; clear BK246; clear BK262; clear BK267; clear HB; have HO252 := n0_; have HO256 := n1_; have HO260 := n2_; have HO266 := n3_; have HO271 := n4_; have BK245 := n5_; have BK246 := n6_; have BK262 := n7_; have BK267 := n8_; have HB := n9_; have BK272 := n10_; have GW272 := n11_; have GE272 := n12_; have NB245_272 := n13_; have NB272_245 := n14_; have NB246_272 := n15_; have NB272_246 := n16_; have NB262_272 := n17_; have NB272_262 := n18_; have NB267_272 := n19_; have NB272_267 := n20_; clear n0_ n1_ n2_ n3_ n4_ n5_ n6_ n7_ n8_ n9_ n10_ n11_ n12_ n13_ n14_ n15_ n16_ n17_ n18_ n19_ n20_; clear hb hbox hg; have hnb57 := NB272_245.out; have hnc57 := NB245_272.out; have hnb58 := NB272_246.out; have hnc58 := NB246_272.out; have hnb59 := NB272_262.out; have hnc59 := NB262_272.out; have hnb60 := NB272_267.out; have hnc60 := NB267_272.out; have hcz61_0 : w56.cell? ⟨gb272, 0, none⟩ = some (.int .i64 0) := (za BK272.out 0).trans rfl; have hcz61_1 : w56.cell? ⟨gb272, 1, none⟩ = some (.slice none 0 0) := (za BK272.out 1).trans rfl; have hfz61_0 := zd BK272.out 0; have hfz61_1 := zd BK272.out 1; obtain ⟨Ao62, co62, eo62⟩ := Kd.zX HO271.out; subst eo62; have hcz63_0 : w56.cell? ⟨gb267, 0, none⟩ = some (.int .i64 t263) := (za BK267.out 0).trans rfl; have hcz63_1 : w56.cell? ⟨gb267, 1, none⟩ = some (.slice Ao52 t264.length co52) := (za BK267.out 1).trans rfl; have hfz63_0 := zd BK267.out 0; have hfz63_1 := zd BK267.out 1) | ((with_reducible refine zn (f := 27) rfl ?_); refine zN (some 42) rfl rfl Try.func27 (by kernel_rfl) rfl #[.agg #[.int .i64 t263, .slice Ao52 t264.length co52], .agg #[.int .i64 t268, .slice Ao62 t269.length co62]] rfl sqM ?_; (with_reducible refine (zg.calls k t263 _ _ t264 t268 _ _ t269 t273 t274 t277 _ ?side1 ?side2 ?side3 ?side4 A24.out).mono ?_); (case side1 => refine (Kd.zq (e := 3) (base := w.heap.size) (ok := fun k_ => ((((True ∧ some k_ ≠ (v251 : Value).ownBlock) ∧ some k_ ≠ (v255 : Value).ownBlock) ∧ some k_ ≠ (.slice Ao42 t258.length co42 : Value).ownBlock) ∧ some k_ ≠ (.slice Ao62 t269.length co62 : Value).ownBlock)) (n := t264.length) (c := co52) ?_).2.2; exact (by refine sqR ?_; exact (Kd.zo (Kd.zB (p := ⟨gb272, 1, none⟩) (Kd.zB (p := ⟨gb272, 0, none⟩) (Kd.zJ HO266.out BK272.out (by decide)) (fun _ hk => hk.2) (.int .i64 t268)) (fun _ hk => hk.2) (.slice Ao62 t269.length co62)) (fun _ h_ => h_.1)))); (case side2 => exact (Kd.zq HO266.out).2.1); (case side3 => refine (Kd.zq (e := 3) (base := w.heap.size) (ok := fun k_ => ((((True ∧ some k_ ≠ (v251 : Value).ownBlock) ∧ some k_ ≠ (v255 : Value).ownBlock) ∧ some k_ ≠ (.slice Ao42 t258.length co42 : Value).ownBlock) ∧ some k_ ≠ (.slice Ao52 t264.length co52 : Value).ownBlock)) (n := t269.length) (c := co62) ?_).2.2; exact (by refine sqR ?_; exact (Kd.zo (Kd.zB (p := ⟨gb272, 1, none⟩) (Kd.zB (p := ⟨gb272, 0, none⟩) (Kd.zJ HO271.out BK272.out (by decide)) (fun _ hk => hk.2) (.int .i64 t268)) (fun _ hk => hk.2) (.slice Ao62 t269.length co62)) (fun _ h_ => h_.1)))); (case side4 => exact (Kd.zq HO271.out).2.1); rintro e w64 ⟨v275, rfl, ho0, hb⟩; refine ⟨_, rfl, ?_⟩; have n0_ := Aside0.mk (Kd.zw (by refine sqR ?_; exact (Kd.zo (Kd.zB (p := ⟨gb272, 1, none⟩) (Kd.zB (p := ⟨gb272, 0, none⟩) (Kd.zJ HO252.out BK272.out (by decide)) (fun _ hk => hk.2) (.int .i64 t268)) (fun _ hk => hk.2) (.slice Ao62 t269.length co62)) (fun _ h_ => h_.1))) (Kd.zI ho0) hb); have n1_ := Aside0.mk (Kd.zw (by refine sqR ?_; exact (Kd.zo (Kd.zB (p := ⟨gb272, 1, none⟩) (Kd.zB (p := ⟨gb272, 0, none⟩) (Kd.zJ HO256.out BK272.out (by decide)) (fun _ hk => hk.2) (.int .i64 t268)) (fun _ hk => hk.2) (.slice Ao62 t269.length co62)) (fun _ h_ => h_.1))) (Kd.zI ho0) hb); have n2_ := Aside0.mk (Kd.zw (by refine sqR ?_; exact (Kd.zo (Kd.zB (p := ⟨gb272, 1, none⟩) (Kd.zB (p := ⟨gb272, 0, none⟩) (Kd.zJ HO260.out BK272.out (by decide)) (fun _ hk => hk.2) (.int .i64 t268)) (fun _ hk => hk.2) (.slice Ao62 t269.length co62)) (fun _ h_ => h_.1))) (Kd.zI ho0) hb); have n3_ := Aside0.mk (Kd.zw (by refine sqR ?_; exact (Kd.zo (Kd.zB (p := ⟨gb272, 1, none⟩) (Kd.zB (p := ⟨gb272, 0, none⟩) (Kd.zJ HO266.out BK272.out (by decide)) (fun _ hk => hk.2) (.int .i64 t268)) (fun _ hk => hk.2) (.slice Ao62 t269.length co62)) (fun _ h_ => h_.1))) (Kd.zI ho0) hb); have n4_ := Aside0.mk (Kd.zw (by refine sqR ?_; exact (Kd.zo (Kd.zB (p := ⟨gb272, 1, none⟩) (Kd.zB (p := ⟨gb272, 0, none⟩) (Kd.zJ HO271.out BK272.out (by decide)) (fun _ hk => hk.2) (.int .i64 t268)) (fun _ hk => hk.2) (.slice Ao62 t269.length co62)) (fun _ h_ => h_.1))) (Kd.zI ho0) hb); have n5_ := Aside0.mk (Kd.qd (Kd.zH (Kd.zH (Kd.zH (Kd.zH (Kd.zH ho0 (Kd.qc (by refine sqR ?_; exact (Kd.zo (Kd.zB (p := ⟨gb272, 1, none⟩) (Kd.zB (p := ⟨gb272, 0, none⟩) (Kd.zJ HO252.out BK272.out (by decide)) (fun _ hk => hk.2) (.int .i64 t268)) (fun _ hk => hk.2) (.slice Ao62 t269.length co62)) (fun _ h_ => h_.1))))) (Kd.qc (by refine sqR ?_; exact (Kd.zo (Kd.zB (p := ⟨gb272, 1, none⟩) (Kd.zB (p := ⟨gb272, 0, none⟩) (Kd.zJ HO256.out BK272.out (by decide)) (fun _ hk => hk.2) (.int .i64 t268)) (fun _ hk => hk.2) (.slice Ao62 t269.length co62)) (fun _ h_ => h_.1))))) (Kd.qc (by refine sqR ?_; exact (Kd.zo (Kd.zB (p := ⟨gb272, 1, none⟩) (Kd.zB (p := ⟨gb272, 0, none⟩) (Kd.zJ HO260.out BK272.out (by decide)) (fun _ hk => hk.2) (.int .i64 t268)) (fun _ hk => hk.2) (.slice Ao62 t269.length co62)) (fun _ h_ => h_.1))))) (Kd.qc (by refine sqR ?_; exact (Kd.zo (Kd.zB (p := ⟨gb272, 1, none⟩) (Kd.zB (p := ⟨gb272, 0, none⟩) (Kd.zJ HO266.out BK272.out (by decide)) (fun _ hk => hk.2) (.int .i64 t268)) (fun _ hk => hk.2) (.slice Ao62 t269.length co62)) (fun _ h_ => h_.1))))) (Kd.qc (by refine sqR ?_; exact (Kd.zo (Kd.zB (p := ⟨gb272, 1, none⟩) (Kd.zB (p := ⟨gb272, 0, none⟩) (Kd.zJ HO271.out BK272.out (by decide)) (fun _ hk => hk.2) (.int .i64 t268)) (fun _ hk => hk.2) (.slice Ao62 t269.length co62)) (fun _ h_ => h_.1))))) (zA sqB)); have n6_ := Aside0.mk (zb (g := gb245) (o := .cells #[.int .i64 a0_0, .slice A0_1 l0_1.length c0_1] 24 (0, 0)) (by refine sqK ?_; refine zD ?_ NB245_272.out _; refine sqK ?_; refine zD ?_ NB245_272.out _; refine sqK ?_; exact BK245.out) hb); have n7_ := Aside0.mk (zb (g := gb246) (o := .cells #[.int .i64 a1_0, .slice A1_1 l1_1.length c1_1] 24 (0, 0)) (by refine sqK ?_; refine zD ?_ NB246_272.out _; refine sqK ?_; refine zD ?_ NB246_272.out _; refine sqK ?_; exact BK246.out) hb); have n8_ := Aside0.mk (zb (g := gb262) (o := .cells #[.int .i64 t257, .slice Ao42 t258.length co42] 26 (0, 0)) (by refine sqK ?_; refine zD ?_ NB262_272.out _; refine sqK ?_; refine zD ?_ NB262_272.out _; refine sqK ?_; exact BK262.out) hb); have n9_ := Aside0.mk (zb (g := gb267) (o := .cells #[.int .i64 t263, .slice Ao52 t264.length co52] 26 (0, 0)) (by refine sqK ?_; refine zD ?_ NB267_272.out _; refine sqK ?_; refine zD ?_ NB267_272.out _; refine sqK ?_; exact BK267.out) hb); have n10_ := Aside0.mk (zb (g := gb272) (o := .cells #[.int .i64 t268, .slice Ao62 t269.length co62] 26 (0, 0)) (by refine sqK ?_; refine zR (cs := #[.int .i64 t268, .slice none 0 0]) ?_ 1 _ rfl; refine sqK ?_; refine zR (cs := #[.int .i64 0, .slice none 0 0]) ?_ 0 _ rfl; refine sqK ?_; exact BK272.out) hb); have n11_ := Aside0.mk (ze sqB hb); clear HO252; clear HO256; clear HO260; clear HO266; clear HO271; clear BK245; clear BK246; clear BK262; clear BK267; clear BK272; clear HB; have HO252 := n0_; have HO256 := n1_; have HO260 := n2_; have HO266 := n3_; have HO271 := n4_; have HO276 := n5_; have BK245 := n6_; have BK246 := n7_; have BK262 := n8_; have BK267 := n9_; have BK272 := n10_; have HB := n11_; clear n0_ n1_ n2_ n3_ n4_ n5_ n6_ n7_ n8_ n9_ n10_ n11_; (try clear hb); (try clear hb2); (try clear hk); (try clear hi); (try clear ho0)) | ((with_reducible refine zE (N := 10) rfl ?_); refine zC ?hg (N := 10) ?hd (cs := #[.int .i64 0, .slice none 0 0]) (t := 26) ?hr ?_; (case hd => rfl); (case hg => rfl); (case hr => exact sqG); intro gb278 hg w65 hbox hb; have n0_ := Aside0.mk (Kd.zu (sqR HO252.out) hb); have n1_ := Aside0.mk (Kd.zu (sqR HO256.out) hb); have n2_ := Aside0.mk (Kd.zu (sqR HO260.out) hb); have n3_ := Aside0.mk (Kd.zu (sqR HO266.out) hb); have n4_ := Aside0.mk (Kd.zu (sqR HO271.out) hb); have n5_ := Aside0.mk (Kd.zu (sqR HO276.out) hb); have n6_ := Aside0.mk (zb (g := gb245) (o := .cells #[.int .i64 a0_0, .slice A0_1 l0_1.length c0_1] 24 (0, 0)) (sqK BK245.out) hb); have n7_ := Aside0.mk (zb (g := gb246) (o := .cells #[.int .i64 a1_0, .slice A1_1 l1_1.length c1_1] 24 (0, 0)) (sqK BK246.out) hb); have n8_ := Aside0.mk (zb (g := gb262) (o := .cells #[.int .i64 t257, .slice Ao42 t258.length co42] 26 (0, 0)) (sqK BK262.out) hb); have n9_ := Aside0.mk (zb (g := gb267) (o := .cells #[.int .i64 t263, .slice Ao52 t264.length co52] 26 (0, 0)) (sqK BK267.out) hb); have n10_ := Aside0.mk (zb (g := gb272) (o := .cells #[.int .i64 t268, .slice Ao62 t269.length co62] 26 (0, 0)) (sqK BK272.out) hb); have n11_ := Aside0.mk (ze sqB hb); have n12_ := Aside0.mk (hbox); have n13_ := Aside0.mk ((sqS hg : w.heap.size ≤ gb278)); have n14_ := Aside0.mk ((sqS hg : w.heap.size ≤ gb278)); have n15_ := Aside0.mk ((by rw [hg]; exact Nat.ne_of_lt (zt (g := gb245) (o := .cells #[.int .i64 a0_0, .slice A0_1 l0_1.length c0_1] 24 (0, 0)) (sqK BK245.out)) : gb245 ≠ gb278)); have n16_ := Aside0.mk ((by rw [hg]; exact Nat.ne_of_gt (zt (g := gb245) (o := .cells #[.int .i64 a0_0, .slice A0_1 l0_1.length c0_1] 24 (0, 0)) (sqK BK245.out)) : gb278 ≠ gb245)); have n17_ := Aside0.mk ((by rw [hg]; exact Nat.ne_of_lt (zt (g := gb246) (o := .cells #[.int .i64 a1_0, .slice A1_1 l1_1.length c1_1] 24 (0, 0)) (sqK BK246.out)) : gb246 ≠ gb278)); have n18_ := Aside0.mk ((by rw [hg]; exact Nat.ne_of_gt (zt (g := gb246) (o := .cells #[.int .i64 a1_0, .slice A1_1 l1_1.length c1_1] 24 (0, 0)) (sqK BK246.out)) : gb278 ≠ gb246)); have n19_ := Aside0.mk ((by rw [hg]; exact Nat.ne_of_lt (zt (g := gb262) (o := .cells #[.int .i64 t257, .slice Ao42 t258.length co42] 26 (0, 0)) (sqK BK262.out)) : gb262 ≠ gb278)); have n20_ := Aside0.mk ((by rw [hg]; exact Nat.ne_of_gt (zt (g := gb262) (o := .cells #[.int .i64 t257, .slice Ao42 t258.length co42] 26 (0, 0)) (sqK BK262.out)) : gb278 ≠ gb262)); have n21_ := Aside0.mk ((by rw [hg]; exact Nat.ne_of_lt (zt (g := gb267) (o := .cells #[.int .i64 t263, .slice Ao52 t264.length co52] 26 (0, 0)) (sqK BK267.out)) : gb267 ≠ gb278)); have n22_ := Aside0.mk ((by rw [hg]; exact Nat.ne_of_gt (zt (g := gb267) (o := .cells #[.int .i64 t263, .slice Ao52 t264.length co52] 26 (0, 0)) (sqK BK267.out)) : gb278 ≠ gb267)); have n23_ := Aside0.mk ((by rw [hg]; exact Nat.ne_of_lt (zt (g := gb272) (o := .cells #[.int .i64 t268, .slice Ao62 t269.length co62] 26 (0, 0)) (sqK BK272.out)) : gb272 ≠ gb278)); have n24_ := Aside0.mk ((by rw [hg]; exact Nat.ne_of_gt (zt (g := gb272) (o := .cells #[.int .i64 t268, .slice Ao62 t269.length co62] 26 (0, 0)) (sqK BK272.out)) : gb278 ≠ gb272)); clear HO252; clear HO256; clear HO260; clear HO266; clear HO271; clear HO276; clear BK245; clear BK246; clear BK262; clear BK267; clear BK272; clear HB; have HO252 := n0_; have HO256 := n1_; have HO260 := n2_; have HO266 := n3_; have HO271 := n4_; have HO276 := n5_; have BK245 := n6_; have BK246 := n7_; have BK262 := n8_; have BK267 := n9_; have BK272 := n10_; have HB := n11_; have BK278 := n12_; have GW278 := n13_; have GE278 := n14_; have NB245_278 := n15_; have NB278_245 := n16_; have NB246_278 := n17_; have NB278_246 := n18_; have NB262_278 := n19_; have NB278_262 := n20_; have NB267_278 := n21_; have NB278_267 := n22_; have NB272_278 := n23_; have NB278_272 := n24_; clear n0_ n1_ n2_ n3_ n4_ n5_ n6_ n7_ n8_ n9_ n10_ n11_ n12_ n13_ n14_ n15_ n16_ n17_ n18_ n19_ n20_ n21_ n22_ n23_ n24_; clear hb hbox hg; have hnb66 := NB278_245.out; have hnc66 := NB245_278.out; have hnb67 := NB278_246.out; have hnc67 := NB246_278.out; have hnb68 := NB278_262.out; have hnc68 := NB262_278.out; have hnb69 := NB278_267.out; have hnc69 := NB267_278.out; have hnb70 := NB278_272.out; have hnc70 := NB272_278.out; have hcz71_0 : w65.cell? ⟨gb278, 0, none⟩ = some (.int .i64 0) := (za BK278.out 0).trans rfl; have hcz71_1 : w65.cell? ⟨gb278, 1, none⟩ = some (.slice none 0 0) := (za BK278.out 1).trans rfl; have hfz71_0 := zd BK278.out 0; have hfz71_1 := zd BK278.out 1; obtain ⟨Ao72, co72, eo72⟩ := Kd.zX HO276.out; subst eo72))
   (try simp only [Act.put, List.setIfInBounds_toArray, List.set_cons_zero, List.set_cons_succ])
   go_cut [53] (fun v53 wc => ∃ (kq : Nat) (x53_24 : Bool), v53 = .bool x53_24 ∧ Aside0 (zc.j0 kq t261 t277 x53_24 a0_0 l0_1 a1_0 l1_1 t257 t258 t263 t264 t268 t269 t273 t274 = some r) ∧ Aside0 (kq ≤ k) ∧ Aside0 (Kd.R (Kd.int .i64) 3 wc w.heap.size (fun k_ => some k_ ≠ ((.slice Ao52 t264.length co52) : Value).ownBlock ∧ some k_ ≠ ((.slice Ao62 t269.length co62) : Value).ownBlock ∧ some k_ ≠ ((.slice Ao72 t274.length co72) : Value).ownBlock) (.slice Ao42 t258.length co42) t258) ∧ Aside0 (Kd.R (Kd.int .i64) 3 wc w.heap.size (fun k_ => some k_ ≠ ((.slice Ao42 t258.length co42) : Value).ownBlock ∧ some k_ ≠ ((.slice Ao62 t269.length co62) : Value).ownBlock ∧ some k_ ≠ ((.slice Ao72 t274.length co72) : Value).ownBlock) (.slice Ao52 t264.length co52) t264) ∧ Aside0 (Kd.R (Kd.int .i64) 3 wc w.heap.size (fun k_ => some k_ ≠ ((.slice Ao42 t258.length co42) : Value).ownBlock ∧ some k_ ≠ ((.slice Ao52 t264.length co52) : Value).ownBlock ∧ some k_ ≠ ((.slice Ao72 t274.length co72) : Value).ownBlock) (.slice Ao62 t269.length co62) t269) ∧ Aside0 (Kd.R (Kd.int .i64) 3 wc w.heap.size (fun k_ => some k_ ≠ ((.slice Ao42 t258.length co42) : Value).ownBlock ∧ some k_ ≠ ((.slice Ao52 t264.length co52) : Value).ownBlock ∧ some k_ ≠ ((.slice Ao62 t269.length co62) : Value).ownBlock) (.slice Ao72 t274.length co72) t274) ∧ Aside0 (wc.heap[gb245]? = some (.cells #[.int .i64 a0_0, (.slice A0_1 l0_1.length c0_1)] 24 (0, 0))) ∧ Aside0 (wc.heap[gb246]? = some (.cells #[.int .i64 a1_0, (.slice A1_1 l1_1.length c1_1)] 24 (0, 0))) ∧ Aside0 (wc.heap[gb262]? = some (.cells #[.int .i64 t257, (.slice Ao42 t258.length co42)] 26 (0, 0))) ∧ Aside0 (wc.heap[gb267]? = some (.cells #[.int .i64 t263, (.slice Ao52 t264.length co52)] 26 (0, 0))) ∧ Aside0 (wc.heap[gb272]? = some (.cells #[.int .i64 t268, (.slice Ao62 t269.length co62)] 26 (0, 0))) ∧ Aside0 (wc.heap[gb278]? = some (.cells #[.int .i64 t273, (.slice Ao72 t274.length co72)] 26 (0, 0))) ∧ Aside0 (Below w.heap.size w wc))
   case first =>
    have H := HC25.out
    clear HC25
    replace H := Option.bind_eq_some_iff.mp H
    obtain ⟨t279, A730, H⟩ := H
    replace H : (if t279 = true then (zc.j0 k t261 t277 (t277 != t261) a0_0 l0_1 a1_0 l1_1 t257 t258 t263 t264 t268 t269 t273 t274) else (zc.j0 k t261 t277 true a0_0 l0_1 a1_0 l1_1 t257 t258 t263 t264 t268 t269 t273 t274)) = some r := H
    have A73 := Aside0.mk A730
    clear A730
    by_cases c74 : t279 = true
    ·subst c74
     have H1 : (zc.j0 k t261 t277 (t277 != t261) a0_0 l0_1 a1_0 l1_1 t257 t258 t263 t264 t268 t269 t273 t274) = some r := by rw [if_pos rfl] at H; exact H
     clear H
     have H := H1
     clear H1
     have H' := Aside0.mk H
     clear H
     have hnb75 := NB278_245.out
     have hnc75 := NB245_278.out
     have hnb76 := NB278_246.out
     have hnc76 := NB246_278.out
     have hnb77 := NB278_262.out
     have hnc77 := NB262_278.out
     have hnb78 := NB278_267.out
     have hnc78 := NB267_278.out
     have hnb79 := NB278_272.out
     have hnc79 := NB272_278.out
     have hcz80_0 : w65.cell? ⟨gb278, 0, none⟩ = some (.int .i64 0) := (za BK278.out 0).trans rfl
     have hcz80_1 : w65.cell? ⟨gb278, 1, none⟩ = some (.slice none 0 0) := (za BK278.out 1).trans rfl
     have hfz80_0 := zd BK278.out 0; have hfz80_1 := zd BK278.out 1
     have hnb81 := NB262_245.out
     have hnc81 := NB245_262.out
     have hnb82 := NB262_246.out
     have hnc82 := NB246_262.out
     have hnb83 := NB262_267.out
     have hnc83 := NB267_262.out
     have hnb84 := NB262_272.out
     have hnc84 := NB272_262.out
     have hcz85_0 : w65.cell? ⟨gb262, 0, none⟩ = some (.int .i64 t257) := (za BK262.out 0).trans rfl
     have hcz85_1 : w65.cell? ⟨gb262, 1, none⟩ = some (.slice Ao42 t258.length co42) := (za BK262.out 1).trans rfl
     have hfz85_0 := zd BK262.out 0; have hfz85_1 := zd BK262.out 1
     go_wp2_with (first | ((with_reducible refine zn (f := 15) rfl ?_); refine zN (some 47) rfl rfl Try.func15 (by kernel_rfl) rfl #[.agg #[.int .i64 t273, .slice Ao72 t274.length co72], .agg #[.int .i64 t257, .slice Ao42 t258.length co42]] rfl sqM ?_; (with_reducible refine (zr.calls k t273 _ _ t274 t257 _ _ t258 true _ ?side1 ?side2 ?side3 ?side4 A73.out).mono ?_); (case side1 => refine (Kd.zq (e := 3) (base := w.heap.size) (ok := fun k_ => (((((True ∧ some k_ ≠ (v251 : Value).ownBlock) ∧ some k_ ≠ (v255 : Value).ownBlock) ∧ some k_ ≠ (.slice Ao42 t258.length co42 : Value).ownBlock) ∧ some k_ ≠ (.slice Ao52 t264.length co52 : Value).ownBlock) ∧ some k_ ≠ (.slice Ao62 t269.length co62 : Value).ownBlock)) (n := t274.length) (c := co72) ?_).2.2; exact (by refine sqR ?_; exact (Kd.zo (Kd.zB (p := ⟨gb278, 1, none⟩) (Kd.zB (p := ⟨gb278, 0, none⟩) (Kd.zJ HO276.out BK278.out (by decide)) (fun _ hk => hk.2) (.int .i64 t273)) (fun _ hk => hk.2) (.slice Ao72 t274.length co72)) (fun _ h_ => h_.1)))); (case side2 => exact (Kd.zq HO276.out).2.1); (case side3 => refine (Kd.zq (e := 3) (base := w.heap.size) (ok := fun k_ => ((((some k_ ≠ (v251 : Value).ownBlock ∧ some k_ ≠ (v255 : Value).ownBlock) ∧ some k_ ≠ (.slice Ao52 t264.length co52 : Value).ownBlock) ∧ some k_ ≠ (.slice Ao62 t269.length co62 : Value).ownBlock) ∧ some k_ ≠ (.slice Ao72 t274.length co72 : Value).ownBlock)) (n := t258.length) (c := co42) ?_).2.2; exact (by refine sqR ?_; exact (Kd.zo (Kd.zB (p := ⟨gb278, 1, none⟩) (Kd.zB (p := ⟨gb278, 0, none⟩) (Kd.zJ HO260.out BK278.out (by decide)) (fun _ hk => hk.2) (.int .i64 t273)) (fun _ hk => hk.2) (.slice Ao72 t274.length co72)) (fun _ h_ => h_.1)))); (case side4 => exact (Kd.zq HO260.out).2.1); rintro e w86 ⟨rfl, hb⟩; refine ⟨_, rfl, ?_⟩; have n0_ := Aside0.mk (Kd.zu (by refine sqR ?_; exact (Kd.zo (Kd.zB (p := ⟨gb278, 1, none⟩) (Kd.zB (p := ⟨gb278, 0, none⟩) (Kd.zJ HO252.out BK278.out (by decide)) (fun _ hk => hk.2) (.int .i64 t273)) (fun _ hk => hk.2) (.slice Ao72 t274.length co72)) (fun _ h_ => h_.1))) hb); have n1_ := Aside0.mk (Kd.zu (by refine sqR ?_; exact (Kd.zo (Kd.zB (p := ⟨gb278, 1, none⟩) (Kd.zB (p := ⟨gb278, 0, none⟩) (Kd.zJ HO256.out BK278.out (by decide)) (fun _ hk => hk.2) (.int .i64 t273)) (fun _ hk => hk.2) (.slice Ao72 t274.length co72)) (fun _ h_ => h_.1))) hb); have n2_ := Aside0.mk (Kd.zu (by refine sqR ?_; exact (Kd.zo (Kd.zB (p := ⟨gb278, 1, none⟩) (Kd.zB (p := ⟨gb278, 0, none⟩) (Kd.zJ HO260.out BK278.out (by decide)) (fun _ hk => hk.2) (.int .i64 t273)) (fun _ hk => hk.2) (.slice Ao72 t274.length co72)) (fun _ h_ => h_.1))) hb); have n3_ := Aside0.mk (Kd.zu (by refine sqR ?_; exact (Kd.zo (Kd.zB (p := ⟨gb278, 1, none⟩) (Kd.zB (p := ⟨gb278, 0, none⟩) (Kd.zJ HO266.out BK278.out (by decide)) (fun _ hk => hk.2) (.int .i64 t273)) (fun _ hk => hk.2) (.slice Ao72 t274.length co72)) (fun _ h_ => h_.1))) hb); have n4_ := Aside0.mk (Kd.zu (by refine sqR ?_; exact (Kd.zo (Kd.zB (p := ⟨gb278, 1, none⟩) (Kd.zB (p := ⟨gb278, 0, none⟩) (Kd.zJ HO271.out BK278.out (by decide)) (fun _ hk => hk.2) (.int .i64 t273)) (fun _ hk => hk.2) (.slice Ao72 t274.length co72)) (fun _ h_ => h_.1))) hb); have n5_ := Aside0.mk (Kd.zu (by refine sqR ?_; exact (Kd.zo (Kd.zB (p := ⟨gb278, 1, none⟩) (Kd.zB (p := ⟨gb278, 0, none⟩) (Kd.zJ HO276.out BK278.out (by decide)) (fun _ hk => hk.2) (.int .i64 t273)) (fun _ hk => hk.2) (.slice Ao72 t274.length co72)) (fun _ h_ => h_.1))) hb); have n6_ := Aside0.mk (zb (g := gb245) (o := .cells #[.int .i64 a0_0, .slice A0_1 l0_1.length c0_1] 24 (0, 0)) (by refine sqK ?_; refine zD ?_ NB245_278.out _; refine sqK ?_; refine zD ?_ NB245_278.out _; refine sqK ?_; exact BK245.out) hb); have n7_ := Aside0.mk (zb (g := gb246) (o := .cells #[.int .i64 a1_0, .slice A1_1 l1_1.length c1_1] 24 (0, 0)) (by refine sqK ?_; refine zD ?_ NB246_278.out _; refine sqK ?_; refine zD ?_ NB246_278.out _; refine sqK ?_; exact BK246.out) hb); have n8_ := Aside0.mk (zb (g := gb262) (o := .cells #[.int .i64 t257, .slice Ao42 t258.length co42] 26 (0, 0)) (by refine sqK ?_; refine zD ?_ NB262_278.out _; refine sqK ?_; refine zD ?_ NB262_278.out _; refine sqK ?_; exact BK262.out) hb); have n9_ := Aside0.mk (zb (g := gb267) (o := .cells #[.int .i64 t263, .slice Ao52 t264.length co52] 26 (0, 0)) (by refine sqK ?_; refine zD ?_ NB267_278.out _; refine sqK ?_; refine zD ?_ NB267_278.out _; refine sqK ?_; exact BK267.out) hb); have n10_ := Aside0.mk (zb (g := gb272) (o := .cells #[.int .i64 t268, .slice Ao62 t269.length co62] 26 (0, 0)) (by refine sqK ?_; refine zD ?_ NB272_278.out _; refine sqK ?_; refine zD ?_ NB272_278.out _; refine sqK ?_; exact BK272.out) hb); have n11_ := Aside0.mk (zb (g := gb278) (o := .cells #[.int .i64 t273, .slice Ao72 t274.length co72] 26 (0, 0)) (by refine sqK ?_; refine zR (cs := #[.int .i64 t273, .slice none 0 0]) ?_ 1 _ rfl; refine sqK ?_; refine zR (cs := #[.int .i64 0, .slice none 0 0]) ?_ 0 _ rfl; refine sqK ?_; exact BK278.out) hb); have n12_ := Aside0.mk (ze sqB hb); clear HO252; clear HO256; clear HO260; clear HO266; clear HO271; clear HO276; clear BK245; clear BK246; clear BK262; clear BK267; clear BK272; clear BK278; clear HB; have HO252 := n0_; have HO256 := n1_; have HO260 := n2_; have HO266 := n3_; have HO271 := n4_; have HO276 := n5_; have BK245 := n6_; have BK246 := n7_; have BK262 := n8_; have BK267 := n9_; have BK272 := n10_; have BK278 := n11_; have HB := n12_; clear n0_ n1_ n2_ n3_ n4_ n5_ n6_ n7_ n8_ n9_ n10_ n11_ n12_; (try clear hb); (try clear hb2); (try clear hk); (try clear hi)))
     go_meet
     case rel => exact ⟨_, ((t277 != t261)), (sqD), H', ⟨by first | omega | exact Nat.le_refl _⟩, ⟨by refine sqR ?_; exact Kd.zo HO260.out (fun _ hk => by first | exact ⟨hk.1.1.2, ⟨hk.1.2, hk.2⟩⟩ | (refine ⟨?_, ?_, ?_⟩ <;> intro e_ <;> simp only [e_, ne_eq, not_true_eq_false, and_false, false_and] at hk))⟩, ⟨by refine sqR ?_; exact Kd.zo HO266.out (fun _ hk => by first | exact ⟨hk.1.1.2, ⟨hk.1.2, hk.2⟩⟩ | (refine ⟨?_, ?_, ?_⟩ <;> intro e_ <;> simp only [e_, ne_eq, not_true_eq_false, and_false, false_and] at hk))⟩, ⟨by refine sqR ?_; exact Kd.zo HO271.out (fun _ hk => by first | exact ⟨hk.1.1.2, ⟨hk.1.2, hk.2⟩⟩ | (refine ⟨?_, ?_, ?_⟩ <;> intro e_ <;> simp only [e_, ne_eq, not_true_eq_false, and_false, false_and] at hk))⟩, ⟨by refine sqR ?_; exact Kd.zo HO276.out (fun _ hk => by first | exact ⟨hk.1.1.2, ⟨hk.1.2, hk.2⟩⟩ | (refine ⟨?_, ?_, ?_⟩ <;> intro e_ <;> simp only [e_, ne_eq, not_true_eq_false, and_false, false_and] at hk))⟩, ⟨sqK BK245.out⟩, ⟨sqK BK246.out⟩, ⟨sqK BK262.out⟩, ⟨sqK BK267.out⟩, ⟨sqK BK272.out⟩, ⟨sqK BK278.out⟩, ⟨sqB⟩⟩
    ·replace c74 := Bool.eq_false_iff.mpr c74
     subst c74
     have H1 : (zc.j0 k t261 t277 true a0_0 l0_1 a1_0 l1_1 t257 t258 t263 t264 t268 t269 t273 t274) = some r := by rw [if_neg (show ¬ (false = true) by decide)] at H; exact H
     clear H
     have H := H1
     clear H1
     have H' := Aside0.mk H
     clear H
     have hnb87 := NB278_245.out
     have hnc87 := NB245_278.out
     have hnb88 := NB278_246.out
     have hnc88 := NB246_278.out
     have hnb89 := NB278_262.out
     have hnc89 := NB262_278.out
     have hnb90 := NB278_267.out
     have hnc90 := NB267_278.out
     have hnb91 := NB278_272.out
     have hnc91 := NB272_278.out
     have hcz92_0 : w65.cell? ⟨gb278, 0, none⟩ = some (.int .i64 0) := (za BK278.out 0).trans rfl
     have hcz92_1 : w65.cell? ⟨gb278, 1, none⟩ = some (.slice none 0 0) := (za BK278.out 1).trans rfl
     have hfz92_0 := zd BK278.out 0; have hfz92_1 := zd BK278.out 1
     have hnb93 := NB262_245.out
     have hnc93 := NB245_262.out
     have hnb94 := NB262_246.out
     have hnc94 := NB246_262.out
     have hnb95 := NB262_267.out
     have hnc95 := NB267_262.out
     have hnb96 := NB262_272.out
     have hnc96 := NB272_262.out
     have hcz97_0 : w65.cell? ⟨gb262, 0, none⟩ = some (.int .i64 t257) := (za BK262.out 0).trans rfl
     have hcz97_1 : w65.cell? ⟨gb262, 1, none⟩ = some (.slice Ao42 t258.length co42) := (za BK262.out 1).trans rfl
     have hfz97_0 := zd BK262.out 0; have hfz97_1 := zd BK262.out 1
     go_wp2_with (first | ((with_reducible refine zn (f := 15) rfl ?_); refine zN (some 47) rfl rfl Try.func15 (by kernel_rfl) rfl #[.agg #[.int .i64 t273, .slice Ao72 t274.length co72], .agg #[.int .i64 t257, .slice Ao42 t258.length co42]] rfl sqM ?_; (with_reducible refine (zr.calls k t273 _ _ t274 t257 _ _ t258 false _ ?side1 ?side2 ?side3 ?side4 A73.out).mono ?_); (case side1 => refine (Kd.zq (e := 3) (base := w.heap.size) (ok := fun k_ => (((((True ∧ some k_ ≠ (v251 : Value).ownBlock) ∧ some k_ ≠ (v255 : Value).ownBlock) ∧ some k_ ≠ (.slice Ao42 t258.length co42 : Value).ownBlock) ∧ some k_ ≠ (.slice Ao52 t264.length co52 : Value).ownBlock) ∧ some k_ ≠ (.slice Ao62 t269.length co62 : Value).ownBlock)) (n := t274.length) (c := co72) ?_).2.2; exact (by refine sqR ?_; exact (Kd.zo (Kd.zB (p := ⟨gb278, 1, none⟩) (Kd.zB (p := ⟨gb278, 0, none⟩) (Kd.zJ HO276.out BK278.out (by decide)) (fun _ hk => hk.2) (.int .i64 t273)) (fun _ hk => hk.2) (.slice Ao72 t274.length co72)) (fun _ h_ => h_.1)))); (case side2 => exact (Kd.zq HO276.out).2.1); (case side3 => refine (Kd.zq (e := 3) (base := w.heap.size) (ok := fun k_ => ((((some k_ ≠ (v251 : Value).ownBlock ∧ some k_ ≠ (v255 : Value).ownBlock) ∧ some k_ ≠ (.slice Ao52 t264.length co52 : Value).ownBlock) ∧ some k_ ≠ (.slice Ao62 t269.length co62 : Value).ownBlock) ∧ some k_ ≠ (.slice Ao72 t274.length co72 : Value).ownBlock)) (n := t258.length) (c := co42) ?_).2.2; exact (by refine sqR ?_; exact (Kd.zo (Kd.zB (p := ⟨gb278, 1, none⟩) (Kd.zB (p := ⟨gb278, 0, none⟩) (Kd.zJ HO260.out BK278.out (by decide)) (fun _ hk => hk.2) (.int .i64 t273)) (fun _ hk => hk.2) (.slice Ao72 t274.length co72)) (fun _ h_ => h_.1)))); (case side4 => exact (Kd.zq HO260.out).2.1); rintro e w98 ⟨rfl, hb⟩; refine ⟨_, rfl, ?_⟩; have n0_ := Aside0.mk (Kd.zu (by refine sqR ?_; exact (Kd.zo (Kd.zB (p := ⟨gb278, 1, none⟩) (Kd.zB (p := ⟨gb278, 0, none⟩) (Kd.zJ HO252.out BK278.out (by decide)) (fun _ hk => hk.2) (.int .i64 t273)) (fun _ hk => hk.2) (.slice Ao72 t274.length co72)) (fun _ h_ => h_.1))) hb); have n1_ := Aside0.mk (Kd.zu (by refine sqR ?_; exact (Kd.zo (Kd.zB (p := ⟨gb278, 1, none⟩) (Kd.zB (p := ⟨gb278, 0, none⟩) (Kd.zJ HO256.out BK278.out (by decide)) (fun _ hk => hk.2) (.int .i64 t273)) (fun _ hk => hk.2) (.slice Ao72 t274.length co72)) (fun _ h_ => h_.1))) hb); have n2_ := Aside0.mk (Kd.zu (by refine sqR ?_; exact (Kd.zo (Kd.zB (p := ⟨gb278, 1, none⟩) (Kd.zB (p := ⟨gb278, 0, none⟩) (Kd.zJ HO260.out BK278.out (by decide)) (fun _ hk => hk.2) (.int .i64 t273)) (fun _ hk => hk.2) (.slice Ao72 t274.length co72)) (fun _ h_ => h_.1))) hb); have n3_ := Aside0.mk (Kd.zu (by refine sqR ?_; exact (Kd.zo (Kd.zB (p := ⟨gb278, 1, none⟩) (Kd.zB (p := ⟨gb278, 0, none⟩) (Kd.zJ HO266.out BK278.out (by decide)) (fun _ hk => hk.2) (.int .i64 t273)) (fun _ hk => hk.2) (.slice Ao72 t274.length co72)) (fun _ h_ => h_.1))) hb); have n4_ := Aside0.mk (Kd.zu (by refine sqR ?_; exact (Kd.zo (Kd.zB (p := ⟨gb278, 1, none⟩) (Kd.zB (p := ⟨gb278, 0, none⟩) (Kd.zJ HO271.out BK278.out (by decide)) (fun _ hk => hk.2) (.int .i64 t273)) (fun _ hk => hk.2) (.slice Ao72 t274.length co72)) (fun _ h_ => h_.1))) hb); have n5_ := Aside0.mk (Kd.zu (by refine sqR ?_; exact (Kd.zo (Kd.zB (p := ⟨gb278, 1, none⟩) (Kd.zB (p := ⟨gb278, 0, none⟩) (Kd.zJ HO276.out BK278.out (by decide)) (fun _ hk => hk.2) (.int .i64 t273)) (fun _ hk => hk.2) (.slice Ao72 t274.length co72)) (fun _ h_ => h_.1))) hb); have n6_ := Aside0.mk (zb (g := gb245) (o := .cells #[.int .i64 a0_0, .slice A0_1 l0_1.length c0_1] 24 (0, 0)) (by refine sqK ?_; refine zD ?_ NB245_278.out _; refine sqK ?_; refine zD ?_ NB245_278.out _; refine sqK ?_; exact BK245.out) hb); have n7_ := Aside0.mk (zb (g := gb246) (o := .cells #[.int .i64 a1_0, .slice A1_1 l1_1.length c1_1] 24 (0, 0)) (by refine sqK ?_; refine zD ?_ NB246_278.out _; refine sqK ?_; refine zD ?_ NB246_278.out _; refine sqK ?_; exact BK246.out) hb); have n8_ := Aside0.mk (zb (g := gb262) (o := .cells #[.int .i64 t257, .slice Ao42 t258.length co42] 26 (0, 0)) (by refine sqK ?_; refine zD ?_ NB262_278.out _; refine sqK ?_; refine zD ?_ NB262_278.out _; refine sqK ?_; exact BK262.out) hb); have n9_ := Aside0.mk (zb (g := gb267) (o := .cells #[.int .i64 t263, .slice Ao52 t264.length co52] 26 (0, 0)) (by refine sqK ?_; refine zD ?_ NB267_278.out _; refine sqK ?_; refine zD ?_ NB267_278.out _; refine sqK ?_; exact BK267.out) hb); have n10_ := Aside0.mk (zb (g := gb272) (o := .cells #[.int .i64 t268, .slice Ao62 t269.length co62] 26 (0, 0)) (by refine sqK ?_; refine zD ?_ NB272_278.out _; refine sqK ?_; refine zD ?_ NB272_278.out _; refine sqK ?_; exact BK272.out) hb); have n11_ := Aside0.mk (zb (g := gb278) (o := .cells #[.int .i64 t273, .slice Ao72 t274.length co72] 26 (0, 0)) (by refine sqK ?_; refine zR (cs := #[.int .i64 t273, .slice none 0 0]) ?_ 1 _ rfl; refine sqK ?_; refine zR (cs := #[.int .i64 0, .slice none 0 0]) ?_ 0 _ rfl; refine sqK ?_; exact BK278.out) hb); have n12_ := Aside0.mk (ze sqB hb); clear HO252; clear HO256; clear HO260; clear HO266; clear HO271; clear HO276; clear BK245; clear BK246; clear BK262; clear BK267; clear BK272; clear BK278; clear HB; have HO252 := n0_; have HO256 := n1_; have HO260 := n2_; have HO266 := n3_; have HO271 := n4_; have HO276 := n5_; have BK245 := n6_; have BK246 := n7_; have BK262 := n8_; have BK267 := n9_; have BK272 := n10_; have BK278 := n11_; have HB := n12_; clear n0_ n1_ n2_ n3_ n4_ n5_ n6_ n7_ n8_ n9_ n10_ n11_ n12_; (try clear hb); (try clear hb2); (try clear hk); (try clear hi)))
     go_meet
     case rel => exact ⟨_, (true), (sqD), H', ⟨by first | omega | exact Nat.le_refl _⟩, ⟨by refine sqR ?_; exact Kd.zo HO260.out (fun _ hk => by first | exact ⟨hk.1.1.2, ⟨hk.1.2, hk.2⟩⟩ | (refine ⟨?_, ?_, ?_⟩ <;> intro e_ <;> simp only [e_, ne_eq, not_true_eq_false, and_false, false_and] at hk))⟩, ⟨by refine sqR ?_; exact Kd.zo HO266.out (fun _ hk => by first | exact ⟨hk.1.1.2, ⟨hk.1.2, hk.2⟩⟩ | (refine ⟨?_, ?_, ?_⟩ <;> intro e_ <;> simp only [e_, ne_eq, not_true_eq_false, and_false, false_and] at hk))⟩, ⟨by refine sqR ?_; exact Kd.zo HO271.out (fun _ hk => by first | exact ⟨hk.1.1.2, ⟨hk.1.2, hk.2⟩⟩ | (refine ⟨?_, ?_, ?_⟩ <;> intro e_ <;> simp only [e_, ne_eq, not_true_eq_false, and_false, false_and] at hk))⟩, ⟨by refine sqR ?_; exact Kd.zo HO276.out (fun _ hk => by first | exact ⟨hk.1.1.2, ⟨hk.1.2, hk.2⟩⟩ | (refine ⟨?_, ?_, ?_⟩ <;> intro e_ <;> simp only [e_, ne_eq, not_true_eq_false, and_false, false_and] at hk))⟩, ⟨sqK BK245.out⟩, ⟨sqK BK246.out⟩, ⟨sqK BK262.out⟩, ⟨sqK BK267.out⟩, ⟨sqK BK272.out⟩, ⟨sqK BK278.out⟩, ⟨sqB⟩⟩
   case rest =>
    clear HC25
    try clear c1
    try clear c2
    try clear p2
    try clear c4
    try clear c5
    try clear c6
    try clear c7
    try clear c8
    try clear c9
    try clear c13
    try clear c15
    try clear c26
    try clear c27
    try clear c44
    try clear c48
    try clear c49
    try clear c50
    try clear c53
    try clear c57
    try clear c58
    try clear c59
    try clear c60
    try clear c66
    try clear c67
    try clear c68
    try clear c69
    try clear c70
    try clear c74
    try clear c75
    try clear c76
    try clear c77
    try clear c78
    try clear c79
    try clear c81
    try clear c82
    try clear c83
    try clear c84
    try clear c87
    try clear c88
    try clear c89
    try clear c90
    try clear c91
    try clear c93
    try clear c94
    try clear c95
    try clear c96
    try clear hcz45_0
    try clear hcz45_1
    try clear hcz51_0
    try clear hcz51_1
    try clear hcz54_0
    try clear hcz54_1
    try clear hcz61_0
    try clear hcz61_1
    try clear hcz63_0
    try clear hcz63_1
    try clear hcz71_0
    try clear hcz71_1
    try clear hcz80_0
    try clear hcz80_1
    try clear hcz85_0
    try clear hcz85_1
    try clear hcz92_0
    try clear hcz92_1
    try clear hcz97_0
    try clear hcz97_1
    try clear hfz45_0
    try clear hfz45_1
    try clear hfz51_0
    try clear hfz51_1
    try clear hfz54_0
    try clear hfz54_1
    try clear hfz61_0
    try clear hfz61_1
    try clear hfz63_0
    try clear hfz63_1
    try clear hfz71_0
    try clear hfz71_1
    try clear hfz80_0
    try clear hfz80_1
    try clear hfz85_0
    try clear hfz85_1
    try clear hfz92_0
    try clear hfz92_1
    try clear hfz97_0
    try clear hfz97_1
    obtain ⟨kq, x53_24, rfl, HA, HJ24, HO_263001, HO_268001, HO_273001, HO_279001, BK245, BK246, BK262, BK267, BK272, BK278, HB⟩ := hcut
    cases kq with
    | zero => exact absurd HA.out (by simp [zc.j0])
    | succ kj24 =>
     have H := HA.out
     clear HA
     simp only [zc.j0] at H
     by_cases c99 : x53_24 = true
     ·subst c99
      have H1 : (none) = some r := by rw [if_pos rfl] at H; exact H
      clear H
      have H := H1
      clear H1
      exact absurd H (by simp)
     ·replace c99 := Bool.eq_false_iff.mpr c99
      subst c99
      have H1 : ((zl.f kj24 a0_0 l0_1).bind fun bt280 => ((zr.f kj24 t263 t264 bt280.1 bt280.2).bind fun t284 => (if t284 = true then ((zl.f kj24 a1_0 l1_1).bind fun bt285 => ((zr.f kj24 t268 t269 bt285.1 bt285.2).bind fun t289 => (if t289 = true then ((zz.f kj24 t263 t264 1).bind fun bt290 => ((zz.f kj24 t268 t269 bt290.1).bind fun bt292 => (if bt292.1 < 0 then (zc.j1 kj24 t261 true a0_0 l0_1 a1_0 l1_1 t257 t258 t273 t274) else ((zr.f kj24 t273 t274 t257 t258).bind fun t294 => (if t294 = true then (zc.j1 kj24 t261 (t277 != t261) a0_0 l0_1 a1_0 l1_1 t257 t258 t273 t274) else (zc.j1 kj24 t261 true a0_0 l0_1 a1_0 l1_1 t257 t258 t273 t274)))))) else (none)))) else (none)))) = some r := by rw [if_neg (show ¬ (false = true) by decide)] at H; exact H
      clear H
      have H := H1
      clear H1
      replace H := Option.bind_eq_some_iff.mp H
      obtain ⟨⟨t280, t281⟩, A1000, H⟩ := H
      replace H : ((zr.f kj24 t263 t264 t280 t281).bind fun t284 => (if t284 = true then ((zl.f kj24 a1_0 l1_1).bind fun bt285 => ((zr.f kj24 t268 t269 bt285.1 bt285.2).bind fun t289 => (if t289 = true then ((zz.f kj24 t263 t264 1).bind fun bt290 => ((zz.f kj24 t268 t269 bt290.1).bind fun bt292 => (if bt292.1 < 0 then (zc.j1 kj24 t261 true a0_0 l0_1 a1_0 l1_1 t257 t258 t273 t274) else ((zr.f kj24 t273 t274 t257 t258).bind fun t294 => (if t294 = true then (zc.j1 kj24 t261 (t277 != t261) a0_0 l0_1 a1_0 l1_1 t257 t258 t273 t274) else (zc.j1 kj24 t261 true a0_0 l0_1 a1_0 l1_1 t257 t258 t273 t274)))))) else (none)))) else (none))) = some r := H
      have A100 := Aside0.mk A1000
      clear A1000
      replace H := Option.bind_eq_some_iff.mp H
      obtain ⟨t284, A1010, H⟩ := H
      replace H : (if t284 = true then ((zl.f kj24 a1_0 l1_1).bind fun bt285 => ((zr.f kj24 t268 t269 bt285.1 bt285.2).bind fun t289 => (if t289 = true then ((zz.f kj24 t263 t264 1).bind fun bt290 => ((zz.f kj24 t268 t269 bt290.1).bind fun bt292 => (if bt292.1 < 0 then (zc.j1 kj24 t261 true a0_0 l0_1 a1_0 l1_1 t257 t258 t273 t274) else ((zr.f kj24 t273 t274 t257 t258).bind fun t294 => (if t294 = true then (zc.j1 kj24 t261 (t277 != t261) a0_0 l0_1 a1_0 l1_1 t257 t258 t273 t274) else (zc.j1 kj24 t261 true a0_0 l0_1 a1_0 l1_1 t257 t258 t273 t274)))))) else (none)))) else (none)) = some r := H
      have A101 := Aside0.mk A1010
      clear A1010
      by_cases c102 : t284 = true
      ·subst c102
       have H1 : ((zl.f kj24 a1_0 l1_1).bind fun bt285 => ((zr.f kj24 t268 t269 bt285.1 bt285.2).bind fun t289 => (if t289 = true then ((zz.f kj24 t263 t264 1).bind fun bt290 => ((zz.f kj24 t268 t269 bt290.1).bind fun bt292 => (if bt292.1 < 0 then (zc.j1 kj24 t261 true a0_0 l0_1 a1_0 l1_1 t257 t258 t273 t274) else ((zr.f kj24 t273 t274 t257 t258).bind fun t294 => (if t294 = true then (zc.j1 kj24 t261 (t277 != t261) a0_0 l0_1 a1_0 l1_1 t257 t258 t273 t274) else (zc.j1 kj24 t261 true a0_0 l0_1 a1_0 l1_1 t257 t258 t273 t274)))))) else (none)))) = some r := by rw [if_pos rfl] at H; exact H
       clear H
       have H := H1
       clear H1
       replace H := Option.bind_eq_some_iff.mp H
       obtain ⟨⟨t285, t286⟩, A1030, H⟩ := H
       replace H : ((zr.f kj24 t268 t269 t285 t286).bind fun t289 => (if t289 = true then ((zz.f kj24 t263 t264 1).bind fun bt290 => ((zz.f kj24 t268 t269 bt290.1).bind fun bt292 => (if bt292.1 < 0 then (zc.j1 kj24 t261 true a0_0 l0_1 a1_0 l1_1 t257 t258 t273 t274) else ((zr.f kj24 t273 t274 t257 t258).bind fun t294 => (if t294 = true then (zc.j1 kj24 t261 (t277 != t261) a0_0 l0_1 a1_0 l1_1 t257 t258 t273 t274) else (zc.j1 kj24 t261 true a0_0 l0_1 a1_0 l1_1 t257 t258 t273 t274)))))) else (none))) = some r := H
       have A103 := Aside0.mk A1030
       clear A1030
       replace H := Option.bind_eq_some_iff.mp H
       obtain ⟨t289, A1040, H⟩ := H
       replace H : (if t289 = true then ((zz.f kj24 t263 t264 1).bind fun bt290 => ((zz.f kj24 t268 t269 bt290.1).bind fun bt292 => (if bt292.1 < 0 then (zc.j1 kj24 t261 true a0_0 l0_1 a1_0 l1_1 t257 t258 t273 t274) else ((zr.f kj24 t273 t274 t257 t258).bind fun t294 => (if t294 = true then (zc.j1 kj24 t261 (t277 != t261) a0_0 l0_1 a1_0 l1_1 t257 t258 t273 t274) else (zc.j1 kj24 t261 true a0_0 l0_1 a1_0 l1_1 t257 t258 t273 t274)))))) else (none)) = some r := H
       have A104 := Aside0.mk A1040
       clear A1040
       by_cases c105 : t289 = true
       ·subst c105
        have H1 : ((zz.f kj24 t263 t264 1).bind fun bt290 => ((zz.f kj24 t268 t269 bt290.1).bind fun bt292 => (if bt292.1 < 0 then (zc.j1 kj24 t261 true a0_0 l0_1 a1_0 l1_1 t257 t258 t273 t274) else ((zr.f kj24 t273 t274 t257 t258).bind fun t294 => (if t294 = true then (zc.j1 kj24 t261 (t277 != t261) a0_0 l0_1 a1_0 l1_1 t257 t258 t273 t274) else (zc.j1 kj24 t261 true a0_0 l0_1 a1_0 l1_1 t257 t258 t273 t274)))))) = some r := by rw [if_pos rfl] at H; exact H
        clear H
        have H := H1
        clear H1
        replace H := Option.bind_eq_some_iff.mp H
        obtain ⟨⟨t290, t291⟩, A1060, H⟩ := H
        replace H : ((zz.f kj24 t268 t269 t290).bind fun bt292 => (if bt292.1 < 0 then (zc.j1 kj24 t261 true a0_0 l0_1 a1_0 l1_1 t257 t258 t273 t274) else ((zr.f kj24 t273 t274 t257 t258).bind fun t294 => (if t294 = true then (zc.j1 kj24 t261 (t277 != t261) a0_0 l0_1 a1_0 l1_1 t257 t258 t273 t274) else (zc.j1 kj24 t261 true a0_0 l0_1 a1_0 l1_1 t257 t258 t273 t274))))) = some r := H
        have A106 := Aside0.mk A1060
        clear A1060
        replace H := Option.bind_eq_some_iff.mp H
        obtain ⟨⟨t292, t293⟩, A1070, H⟩ := H
        replace H : (if t292 < 0 then (zc.j1 kj24 t261 true a0_0 l0_1 a1_0 l1_1 t257 t258 t273 t274) else ((zr.f kj24 t273 t274 t257 t258).bind fun t294 => (if t294 = true then (zc.j1 kj24 t261 (t277 != t261) a0_0 l0_1 a1_0 l1_1 t257 t258 t273 t274) else (zc.j1 kj24 t261 true a0_0 l0_1 a1_0 l1_1 t257 t258 t273 t274)))) = some r := H
        have A107 := Aside0.mk A1070
        clear A1070
        have HC108 := Aside0.mk H
        clear H
        try go_wp2
        have n0_ := Aside0.mk (Kd.qv HO_263001.out)
        have n1_ := Aside0.mk (Kd.qv HO_268001.out)
        have n2_ := Aside0.mk (Kd.qv HO_273001.out)
        have n3_ := Aside0.mk (Kd.qv HO_279001.out)
        have n4_ := Aside0.mk (zW BK245.out)
        have n5_ := Aside0.mk (zW BK246.out)
        have n6_ := Aside0.mk (zW BK262.out)
        have n7_ := Aside0.mk (zW BK267.out)
        have n8_ := Aside0.mk (zW BK272.out)
        have n9_ := Aside0.mk (zW BK278.out)
        have n10_ := Aside0.mk (zT HB.out)
        clear HO_263001 HO_268001 HO_273001 HO_279001 BK245 BK246 BK262 BK267 BK272 BK278 HB; have HO_263001 := n0_; have HO_268001 := n1_; have HO_273001 := n2_; have HO_279001 := n3_; have BK245 := n4_; have BK246 := n5_; have BK262 := n6_; have BK267 := n7_; have BK272 := n8_; have BK278 := n9_; have HB := n10_; clear n0_ n1_ n2_ n3_ n4_ n5_ n6_ n7_ n8_ n9_ n10_
        refine qU (n := 5) (S := fun w' => w'.cell? ⟨gb267, 0, none⟩ = some (.int .i64 t263) ∧ w'.cell? ⟨gb267, 1, none⟩ = some (.slice Ao52 t264.length co52) ∧ w'.cell? ⟨gb245, 0, none⟩ = some (.int .i64 a0_0) ∧ w'.cell? ⟨gb245, 1, none⟩ = some (.slice A0_1 l0_1.length c0_1)) (ds := []) #[false, false, false, false, false] (by kernel_rfl) rfl rfl ⟨(za BK267.out 0).trans rfl, (za BK267.out 1).trans rfl, (za BK245.out 0).trans rfl, (za BK245.out 1).trans rfl⟩ (fun hHeld => ?_)
        generalize wc.drew = w109 at HO_263001 HO_268001 HO_273001 HO_279001 BK245 BK246 BK262 BK267 BK272 BK278 HB hHeld ⊢
        refine qA (i := 0) (N := some 54) (v := ?_) (a' := ?_) #[true, false, false, false, false] rfl rfl (by kernel_rfl) (fun _ _ _ h => h) (Or.inl ⟨by rfl, ?_⟩) hHeld ?_ ?_
        rotate_left
        ·rintro w' ⟨s0, s1, s2, s3⟩; go_simp; with_reducible rfl
        rotate_left
        ·simp only [Act.put, List.setIfInBounds_toArray, List.set_cons_zero, List.set_cons_succ, zi, zj]; rfl
        refine qA (i := 1) (N := some 55) (v := ?_) (a' := ?_) #[true, true, false, false, false] rfl rfl (by kernel_rfl) (fun _ _ _ h => h) (Or.inl ⟨by rfl, ?_⟩) hHeld ?_ ?_
        rotate_left
        ·rintro w' ⟨s0, s1, s2, s3⟩; go_simp; with_reducible rfl
        rotate_left
        ·simp only [Act.put, List.setIfInBounds_toArray, List.set_cons_zero, List.set_cons_succ, zi, zj]; rfl
        refine qW (i := 2) (N := some 56) #[true, true, true, false, false] rfl rfl (by kernel_rfl) (by decide) (fun K hK => ?_)
        refine qP Try.func13 (by kernel_rfl) rfl #[.agg #[.int .i64 a0_0, .slice A0_1 l0_1.length c0_1]] (by rfl) rfl rfl sqM ?_
        with_reducible refine (zl.calls kj24 a0_0 _ _ l0_1 t280 t281 _ ?side1 ?side2 A100.out).mono ?_
        (case side1 => exact sqC (Kd.zF HR0_1.out HB.out))
        (case side2 => exact HC0_1.out)
        rintro e w110 ⟨v282, rfl, ho0, hb⟩
        refine ⟨_, rfl, ?_⟩
        have n0_ := Aside0.mk (Kd.zw (sqR HO_263001.out) (Kd.zI ho0) hb)
        have n1_ := Aside0.mk (Kd.zw (sqR HO_268001.out) (Kd.zI ho0) hb)
        have n2_ := Aside0.mk (Kd.zw (sqR HO_273001.out) (Kd.zI ho0) hb)
        have n3_ := Aside0.mk (Kd.zw (sqR HO_279001.out) (Kd.zI ho0) hb)
        have n4_ := Aside0.mk (Kd.qd (Kd.zH (Kd.zH (Kd.zH (Kd.zH ho0 (Kd.qc (sqR HO_263001.out))) (Kd.qc (sqR HO_268001.out))) (Kd.qc (sqR HO_273001.out))) (Kd.qc (sqR HO_279001.out))) (zA sqB))
        have n5_ := Aside0.mk (zb (g := gb245) (o := .cells #[.int .i64 a0_0, .slice A0_1 l0_1.length c0_1] 24 (0, 0)) (sqK BK245.out) hb)
        have n6_ := Aside0.mk (zb (g := gb246) (o := .cells #[.int .i64 a1_0, .slice A1_1 l1_1.length c1_1] 24 (0, 0)) (sqK BK246.out) hb)
        have n7_ := Aside0.mk (zb (g := gb262) (o := .cells #[.int .i64 t257, .slice Ao42 t258.length co42] 26 (0, 0)) (sqK BK262.out) hb)
        have n8_ := Aside0.mk (zb (g := gb267) (o := .cells #[.int .i64 t263, .slice Ao52 t264.length co52] 26 (0, 0)) (sqK BK267.out) hb)
        have n9_ := Aside0.mk (zb (g := gb272) (o := .cells #[.int .i64 t268, .slice Ao62 t269.length co62] 26 (0, 0)) (sqK BK272.out) hb)
        have n10_ := Aside0.mk (zb (g := gb278) (o := .cells #[.int .i64 t273, .slice Ao72 t274.length co72] 26 (0, 0)) (sqK BK278.out) hb)
        have n11_ := Aside0.mk (ze sqB hb)
        clear HO_263001 HO_268001 HO_273001 HO_279001 BK245 BK246 BK262 BK267 BK272 BK278 HB; have HO_263001 := n0_; have HO_268001 := n1_; have HO_273001 := n2_; have HO_279001 := n3_; have HO283 := n4_; have BK245 := n5_; have BK246 := n6_; have BK262 := n7_; have BK267 := n8_; have BK272 := n9_; have BK278 := n10_; have HB := n11_; clear n0_ n1_ n2_ n3_ n4_ n5_ n6_ n7_ n8_ n9_ n10_ n11_; (try clear hb); (try clear hb2); (try clear hk); (try clear hi); (try clear ho0)
        obtain ⟨Ao111, co111, eo111⟩ := Kd.zX HO283.out
        (first | subst eo111 | (injection eo111 with f1_ f2_ f3_; have f4_ := f1_.symm; have f5_ := f3_.symm; clear f1_ f2_ f3_; subst f4_; subst f5_))
        refine hK.out _ _ ⟨(za BK267.out 0).trans rfl, (za BK267.out 1).trans rfl, (za BK245.out 0).trans rfl, (za BK245.out 1).trans rfl⟩ (fun hHeld => ?_)
        clear hK K
        refine qh (a' := ?_) ?_ ?_
        rotate_left
        ·show Act.put _ (some 56) _ = _; simp only [Act.put, List.setIfInBounds_toArray, List.set_cons_zero, List.set_cons_succ, zi, zj]; rfl
        refine qW (i := 3) (N := some 57) #[true, true, true, true, false] rfl rfl (by kernel_rfl) (by decide) (fun K hK => ?_)
        refine qP Try.func15 (by kernel_rfl) rfl #[.agg #[.int .i64 t263, .slice Ao52 t264.length co52], .agg #[.int .i64 t280, .slice Ao111 t281.length co111]] (by rfl) rfl rfl sqM ?_
        with_reducible refine (zr.calls kj24 t263 _ _ t264 t280 _ _ t281 true _ ?side1 ?side2 ?side3 ?side4 A101.out).mono ?_
        (case side1 => exact sqC (Kd.zq HO_268001.out).2.2)
        (case side2 => exact (Kd.zq HO_268001.out).2.1)
        (case side3 => exact sqC (Kd.zq HO283.out).2.2)
        (case side4 => exact (Kd.zq HO283.out).2.1)
        rintro e w112 ⟨rfl, hb⟩
        refine ⟨_, rfl, ?_⟩
        have n0_ := Aside0.mk (Kd.zu (sqR HO_263001.out) hb)
        have n1_ := Aside0.mk (Kd.zu (sqR HO_268001.out) hb)
        have n2_ := Aside0.mk (Kd.zu (sqR HO_273001.out) hb)
        have n3_ := Aside0.mk (Kd.zu (sqR HO_279001.out) hb)
        have n4_ := Aside0.mk (Kd.zu (sqR HO283.out) hb)
        have n5_ := Aside0.mk (zb (g := gb245) (o := .cells #[.int .i64 a0_0, .slice A0_1 l0_1.length c0_1] 24 (0, 0)) (sqK BK245.out) hb)
        have n6_ := Aside0.mk (zb (g := gb246) (o := .cells #[.int .i64 a1_0, .slice A1_1 l1_1.length c1_1] 24 (0, 0)) (sqK BK246.out) hb)
        have n7_ := Aside0.mk (zb (g := gb262) (o := .cells #[.int .i64 t257, .slice Ao42 t258.length co42] 26 (0, 0)) (sqK BK262.out) hb)
        have n8_ := Aside0.mk (zb (g := gb267) (o := .cells #[.int .i64 t263, .slice Ao52 t264.length co52] 26 (0, 0)) (sqK BK267.out) hb)
        have n9_ := Aside0.mk (zb (g := gb272) (o := .cells #[.int .i64 t268, .slice Ao62 t269.length co62] 26 (0, 0)) (sqK BK272.out) hb)
        have n10_ := Aside0.mk (zb (g := gb278) (o := .cells #[.int .i64 t273, .slice Ao72 t274.length co72] 26 (0, 0)) (sqK BK278.out) hb)
        have n11_ := Aside0.mk (ze sqB hb)
        clear HO_263001 HO_268001 HO_273001 HO_279001 HO283 BK245 BK246 BK262 BK267 BK272 BK278 HB; have HO_263001 := n0_; have HO_268001 := n1_; have HO_273001 := n2_; have HO_279001 := n3_; have HO283 := n4_; have BK245 := n5_; have BK246 := n6_; have BK262 := n7_; have BK267 := n8_; have BK272 := n9_; have BK278 := n10_; have HB := n11_; clear n0_ n1_ n2_ n3_ n4_ n5_ n6_ n7_ n8_ n9_ n10_ n11_; (try clear hb); (try clear hb2); (try clear hk); (try clear hi)
        refine hK.out _ _ ⟨(za BK267.out 0).trans rfl, (za BK267.out 1).trans rfl, (za BK245.out 0).trans rfl, (za BK245.out 1).trans rfl⟩ (fun hHeld => ?_)
        clear hK K
        refine qh (a' := ?_) ?_ ?_
        rotate_left
        ·show Act.put _ (some 57) _ = _; simp only [Act.put, List.setIfInBounds_toArray, List.set_cons_zero, List.set_cons_succ, zi, zj]; rfl
        refine zx (i := 4) (N := some 58) (v := ?_) (a' := ?_) #[true, true, true, true, true] rfl rfl (by kernel_rfl) (fun _ _ _ h => h) (Or.inl ⟨by rfl, ?_⟩) ?_ ?_
        rotate_left
        ·intro w'; go_simp; with_reducible rfl
        rotate_left
        ·simp only [Act.put, List.setIfInBounds_toArray, List.set_cons_zero, List.set_cons_succ, zi, zj]; rfl
        refine ji (by kernel_rfl) ?_
        try go_wp2
        have n0_ := Aside0.mk (Kd.qv HO_263001.out)
        have n1_ := Aside0.mk (Kd.qv HO_268001.out)
        have n2_ := Aside0.mk (Kd.qv HO_273001.out)
        have n3_ := Aside0.mk (Kd.qv HO_279001.out)
        have n4_ := Aside0.mk (Kd.qv HO283.out)
        have n5_ := Aside0.mk (zW BK245.out)
        have n6_ := Aside0.mk (zW BK246.out)
        have n7_ := Aside0.mk (zW BK262.out)
        have n8_ := Aside0.mk (zW BK267.out)
        have n9_ := Aside0.mk (zW BK272.out)
        have n10_ := Aside0.mk (zW BK278.out)
        have n11_ := Aside0.mk (zT HB.out)
        clear HO_263001 HO_268001 HO_273001 HO_279001 HO283 BK245 BK246 BK262 BK267 BK272 BK278 HB; have HO_263001 := n0_; have HO_268001 := n1_; have HO_273001 := n2_; have HO_279001 := n3_; have HO283 := n4_; have BK245 := n5_; have BK246 := n6_; have BK262 := n7_; have BK267 := n8_; have BK272 := n9_; have BK278 := n10_; have HB := n11_; clear n0_ n1_ n2_ n3_ n4_ n5_ n6_ n7_ n8_ n9_ n10_ n11_
        refine qU (n := 5) (S := fun w' => w'.cell? ⟨gb272, 0, none⟩ = some (.int .i64 t268) ∧ w'.cell? ⟨gb272, 1, none⟩ = some (.slice Ao62 t269.length co62) ∧ w'.cell? ⟨gb246, 0, none⟩ = some (.int .i64 a1_0) ∧ w'.cell? ⟨gb246, 1, none⟩ = some (.slice A1_1 l1_1.length c1_1)) (ds := []) #[false, false, false, false, false] (by kernel_rfl) rfl rfl ⟨(za BK272.out 0).trans rfl, (za BK272.out 1).trans rfl, (za BK246.out 0).trans rfl, (za BK246.out 1).trans rfl⟩ (fun hHeld => ?_)
        generalize w112.drew = w113 at HO_263001 HO_268001 HO_273001 HO_279001 HO283 BK245 BK246 BK262 BK267 BK272 BK278 HB hHeld ⊢
        refine qA (i := 0) (N := some 59) (v := ?_) (a' := ?_) #[true, false, false, false, false] rfl rfl (by kernel_rfl) (fun _ _ _ h => h) (Or.inl ⟨by rfl, ?_⟩) hHeld ?_ ?_
        rotate_left
        ·rintro w' ⟨s0, s1, s2, s3⟩; go_simp; with_reducible rfl
        rotate_left
        ·simp only [Act.put, List.setIfInBounds_toArray, List.set_cons_zero, List.set_cons_succ, zi, zj]; rfl
        refine qA (i := 1) (N := some 60) (v := ?_) (a' := ?_) #[true, true, false, false, false] rfl rfl (by kernel_rfl) (fun _ _ _ h => h) (Or.inl ⟨by rfl, ?_⟩) hHeld ?_ ?_
        rotate_left
        ·rintro w' ⟨s0, s1, s2, s3⟩; go_simp; with_reducible rfl
        rotate_left
        ·simp only [Act.put, List.setIfInBounds_toArray, List.set_cons_zero, List.set_cons_succ, zi, zj]; rfl
        refine qW (i := 2) (N := some 61) #[true, true, true, false, false] rfl rfl (by kernel_rfl) (by decide) (fun K hK => ?_)
        refine qP Try.func13 (by kernel_rfl) rfl #[.agg #[.int .i64 a1_0, .slice A1_1 l1_1.length c1_1]] (by rfl) rfl rfl sqM ?_
        with_reducible refine (zl.calls kj24 a1_0 _ _ l1_1 t285 t286 _ ?side1 ?side2 A103.out).mono ?_
        (case side1 => exact sqC (Kd.zF HR1_1.out HB.out))
        (case side2 => exact HC1_1.out)
        rintro e w114 ⟨v287, rfl, ho0, hb⟩
        refine ⟨_, rfl, ?_⟩
        have n0_ := Aside0.mk (Kd.zw (sqR HO_263001.out) (Kd.zI ho0) hb)
        have n1_ := Aside0.mk (Kd.zw (sqR HO_268001.out) (Kd.zI ho0) hb)
        have n2_ := Aside0.mk (Kd.zw (sqR HO_273001.out) (Kd.zI ho0) hb)
        have n3_ := Aside0.mk (Kd.zw (sqR HO_279001.out) (Kd.zI ho0) hb)
        have n4_ := Aside0.mk (Kd.zw (sqR HO283.out) (Kd.zI ho0) hb)
        have n5_ := Aside0.mk (Kd.qd (Kd.zH (Kd.zH (Kd.zH (Kd.zH (Kd.zH ho0 (Kd.qc (sqR HO_263001.out))) (Kd.qc (sqR HO_268001.out))) (Kd.qc (sqR HO_273001.out))) (Kd.qc (sqR HO_279001.out))) (Kd.qc (sqR HO283.out))) (zA sqB))
        have n6_ := Aside0.mk (zb (g := gb245) (o := .cells #[.int .i64 a0_0, .slice A0_1 l0_1.length c0_1] 24 (0, 0)) (sqK BK245.out) hb)
        have n7_ := Aside0.mk (zb (g := gb246) (o := .cells #[.int .i64 a1_0, .slice A1_1 l1_1.length c1_1] 24 (0, 0)) (sqK BK246.out) hb)
        have n8_ := Aside0.mk (zb (g := gb262) (o := .cells #[.int .i64 t257, .slice Ao42 t258.length co42] 26 (0, 0)) (sqK BK262.out) hb)
        have n9_ := Aside0.mk (zb (g := gb267) (o := .cells #[.int .i64 t263, .slice Ao52 t264.length co52] 26 (0, 0)) (sqK BK267.out) hb)
        have n10_ := Aside0.mk (zb (g := gb272) (o := .cells #[.int .i64 t268, .slice Ao62 t269.length co62] 26 (0, 0)) (sqK BK272.out) hb)
        have n11_ := Aside0.mk (zb (g := gb278) (o := .cells #[.int .i64 t273, .slice Ao72 t274.length co72] 26 (0, 0)) (sqK BK278.out) hb)
        have n12_ := Aside0.mk (ze sqB hb)
        clear HO_263001 HO_268001 HO_273001 HO_279001 HO283 BK245 BK246 BK262 BK267 BK272 BK278 HB; have HO_263001 := n0_; have HO_268001 := n1_; have HO_273001 := n2_; have HO_279001 := n3_; have HO283 := n4_; have HO288 := n5_; have BK245 := n6_; have BK246 := n7_; have BK262 := n8_; have BK267 := n9_; have BK272 := n10_; have BK278 := n11_; have HB := n12_; clear n0_ n1_ n2_ n3_ n4_ n5_ n6_ n7_ n8_ n9_ n10_ n11_ n12_; (try clear hb); (try clear hb2); (try clear hk); (try clear hi); (try clear ho0)
        obtain ⟨Ao115, co115, eo115⟩ := Kd.zX HO288.out
        (first | subst eo115 | (injection eo115 with f1_ f2_ f3_; have f4_ := f1_.symm; have f5_ := f3_.symm; clear f1_ f2_ f3_; subst f4_; subst f5_))
        refine hK.out _ _ ⟨(za BK272.out 0).trans rfl, (za BK272.out 1).trans rfl, (za BK246.out 0).trans rfl, (za BK246.out 1).trans rfl⟩ (fun hHeld => ?_)
        clear hK K
        refine qh (a' := ?_) ?_ ?_
        rotate_left
        ·show Act.put _ (some 61) _ = _; simp only [Act.put, List.setIfInBounds_toArray, List.set_cons_zero, List.set_cons_succ, zi, zj]; rfl
        refine qW (i := 3) (N := some 62) #[true, true, true, true, false] rfl rfl (by kernel_rfl) (by decide) (fun K hK => ?_)
        refine qP Try.func15 (by kernel_rfl) rfl #[.agg #[.int .i64 t268, .slice Ao62 t269.length co62], .agg #[.int .i64 t285, .slice Ao115 t286.length co115]] (by rfl) rfl rfl sqM ?_
        with_reducible refine (zr.calls kj24 t268 _ _ t269 t285 _ _ t286 true _ ?side1 ?side2 ?side3 ?side4 A104.out).mono ?_
        (case side1 => exact sqC (Kd.zq HO_273001.out).2.2)
        (case side2 => exact (Kd.zq HO_273001.out).2.1)
        (case side3 => exact sqC (Kd.zq HO288.out).2.2)
        (case side4 => exact (Kd.zq HO288.out).2.1)
        rintro e w116 ⟨rfl, hb⟩
        refine ⟨_, rfl, ?_⟩
        have n0_ := Aside0.mk (Kd.zu (sqR HO_263001.out) hb)
        have n1_ := Aside0.mk (Kd.zu (sqR HO_268001.out) hb)
        have n2_ := Aside0.mk (Kd.zu (sqR HO_273001.out) hb)
        have n3_ := Aside0.mk (Kd.zu (sqR HO_279001.out) hb)
        have n4_ := Aside0.mk (Kd.zu (sqR HO283.out) hb)
        have n5_ := Aside0.mk (Kd.zu (sqR HO288.out) hb)
        have n6_ := Aside0.mk (zb (g := gb245) (o := .cells #[.int .i64 a0_0, .slice A0_1 l0_1.length c0_1] 24 (0, 0)) (sqK BK245.out) hb)
        have n7_ := Aside0.mk (zb (g := gb246) (o := .cells #[.int .i64 a1_0, .slice A1_1 l1_1.length c1_1] 24 (0, 0)) (sqK BK246.out) hb)
        have n8_ := Aside0.mk (zb (g := gb262) (o := .cells #[.int .i64 t257, .slice Ao42 t258.length co42] 26 (0, 0)) (sqK BK262.out) hb)
        have n9_ := Aside0.mk (zb (g := gb267) (o := .cells #[.int .i64 t263, .slice Ao52 t264.length co52] 26 (0, 0)) (sqK BK267.out) hb)
        have n10_ := Aside0.mk (zb (g := gb272) (o := .cells #[.int .i64 t268, .slice Ao62 t269.length co62] 26 (0, 0)) (sqK BK272.out) hb)
        have n11_ := Aside0.mk (zb (g := gb278) (o := .cells #[.int .i64 t273, .slice Ao72 t274.length co72] 26 (0, 0)) (sqK BK278.out) hb)
        have n12_ := Aside0.mk (ze sqB hb)
        clear HO_263001 HO_268001 HO_273001 HO_279001 HO283 HO288 BK245 BK246 BK262 BK267 BK272 BK278 HB; have HO_263001 := n0_; have HO_268001 := n1_; have HO_273001 := n2_; have HO_279001 := n3_; have HO283 := n4_; have HO288 := n5_; have BK245 := n6_; have BK246 := n7_; have BK262 := n8_; have BK267 := n9_; have BK272 := n10_; have BK278 := n11_; have HB := n12_; clear n0_ n1_ n2_ n3_ n4_ n5_ n6_ n7_ n8_ n9_ n10_ n11_ n12_; (try clear hb); (try clear hb2); (try clear hk); (try clear hi)
        refine hK.out _ _ ⟨(za BK272.out 0).trans rfl, (za BK272.out 1).trans rfl, (za BK246.out 0).trans rfl, (za BK246.out 1).trans rfl⟩ (fun hHeld => ?_)
        clear hK K
        refine qh (a' := ?_) ?_ ?_
        rotate_left
        ·show Act.put _ (some 62) _ = _; simp only [Act.put, List.setIfInBounds_toArray, List.set_cons_zero, List.set_cons_succ, zi, zj]; rfl
        refine zx (i := 4) (N := some 63) (v := ?_) (a' := ?_) #[true, true, true, true, true] rfl rfl (by kernel_rfl) (fun _ _ _ h => h) (Or.inl ⟨by rfl, ?_⟩) ?_ ?_
        rotate_left
        ·intro w'; go_simp; with_reducible rfl
        rotate_left
        ·simp only [Act.put, List.setIfInBounds_toArray, List.set_cons_zero, List.set_cons_succ, zi, zj]; rfl
        refine ji (by kernel_rfl) ?_
        have hnb117 := NB267_245.out
        have hnc117 := NB245_267.out
        have hnb118 := NB267_246.out
        have hnc118 := NB246_267.out
        have hnb119 := NB267_262.out
        have hnc119 := NB262_267.out
        have hnb120 := NB267_272.out
        have hnc120 := NB272_267.out
        have hnb121 := NB267_278.out
        have hnc121 := NB278_267.out
        have hcz122_0 : w116.cell? ⟨gb267, 0, none⟩ = some (.int .i64 t263) := (za BK267.out 0).trans rfl
        have hcz122_1 : w116.cell? ⟨gb267, 1, none⟩ = some (.slice Ao52 t264.length co52) := (za BK267.out 1).trans rfl
        have hfz122_0 := zd BK267.out 0; have hfz122_1 := zd BK267.out 1
        go_upto_region 21 with (first | ((with_reducible refine zn (f := 16) rfl ?_); refine zN (some 66) rfl rfl Try.func16 (by kernel_rfl) rfl #[.agg #[.int .i64 t263, .slice Ao52 t264.length co52], .int .i64 1] rfl sqM ?_; (with_reducible refine (zz.calls kj24 t263 (fun k_ => some k_ = (.slice Ao52 t264.length co52 : Value).ownBlock) (.slice Ao52 t264.length co52) t264 1 t290 t291 w _ ?side1 ?side2 A106.out).mono ?_); (case side1 => repeat (first | (with_reducible first | exact HB.out | apply qu | apply zQ | apply zT | refine zV ?_ GE245.out | refine zV ?_ GE246.out | refine zV ?_ GE262.out | refine zV ?_ GE267.out | refine zV ?_ GE272.out | refine zV ?_ GE278.out) | exact HB.out)); (case side2 => exact Kd.vB rfl HO_268001.out); rintro e w123 ⟨rfl, hy0, hb, hkp⟩; refine ⟨_, rfl, ?_⟩; have n0_ := Aside0.mk (Kd.zo (ok' := fun k_ => some k_ ≠ (.slice Ao52 t264.length co52 : Value).ownBlock ∧ some k_ ≠ (.slice Ao62 t269.length co62 : Value).ownBlock ∧ some k_ ≠ (.slice Ao72 t274.length co72 : Value).ownBlock ∧ some k_ ≠ (.slice Ao111 t281.length co111 : Value).ownBlock ∧ some k_ ≠ (.slice Ao115 t286.length co115 : Value).ownBlock) (Kd.qT (HO_263001.out) hkp (fun k_ hk_ hs_ => by first | exact hk_.1.1.1 hs_ | (have e_ : some k_ = _ := hs_; simp only [e_, ne_eq, not_true_eq_false, and_false, false_and] at hk_))) (fun k_ hk_ => by first | exact ⟨hk_.1.1.1.1, hk_.1.1.1.2.1, hk_.1.1.1.2.2, hk_.1.1.2, hk_.1.2⟩ | (refine ⟨?_, ?_, ?_, ?_, ?_⟩ <;> intro e_ <;> simp only [e_, ne_eq, not_true_eq_false, and_false, false_and] at hk_))); have n1_ := Aside0.mk (Kd.Zd rfl hy0 (fun k_ e_ => HO_268001.out.1 k_ e_)); have n2_ := Aside0.mk (Kd.zo (ok' := fun k_ => some k_ ≠ (.slice Ao42 t258.length co42 : Value).ownBlock ∧ some k_ ≠ (.slice Ao52 t264.length co52 : Value).ownBlock ∧ some k_ ≠ (.slice Ao72 t274.length co72 : Value).ownBlock ∧ some k_ ≠ (.slice Ao111 t281.length co111 : Value).ownBlock ∧ some k_ ≠ (.slice Ao115 t286.length co115 : Value).ownBlock) (Kd.qT (HO_273001.out) hkp (fun k_ hk_ hs_ => by first | exact hk_.1.1.2.1 hs_ | (have e_ : some k_ = _ := hs_; simp only [e_, ne_eq, not_true_eq_false, and_false, false_and] at hk_))) (fun k_ hk_ => by first | exact ⟨hk_.1.1.1.1, hk_.1.1.1.2.1, hk_.1.1.1.2.2, hk_.1.1.2, hk_.1.2⟩ | (refine ⟨?_, ?_, ?_, ?_, ?_⟩ <;> intro e_ <;> simp only [e_, ne_eq, not_true_eq_false, and_false, false_and] at hk_))); have n3_ := Aside0.mk (Kd.zo (ok' := fun k_ => some k_ ≠ (.slice Ao42 t258.length co42 : Value).ownBlock ∧ some k_ ≠ (.slice Ao52 t264.length co52 : Value).ownBlock ∧ some k_ ≠ (.slice Ao62 t269.length co62 : Value).ownBlock ∧ some k_ ≠ (.slice Ao111 t281.length co111 : Value).ownBlock ∧ some k_ ≠ (.slice Ao115 t286.length co115 : Value).ownBlock) (Kd.qT (HO_279001.out) hkp (fun k_ hk_ hs_ => by first | exact hk_.1.1.2.1 hs_ | (have e_ : some k_ = _ := hs_; simp only [e_, ne_eq, not_true_eq_false, and_false, false_and] at hk_))) (fun k_ hk_ => by first | exact ⟨hk_.1.1.1.1, hk_.1.1.1.2.1, hk_.1.1.1.2.2, hk_.1.1.2, hk_.1.2⟩ | (refine ⟨?_, ?_, ?_, ?_, ?_⟩ <;> intro e_ <;> simp only [e_, ne_eq, not_true_eq_false, and_false, false_and] at hk_))); have n4_ := Aside0.mk (qq (sqK BK245.out) hkp (fun hs_ => (fun e_ => (Kd.jd HO_268001.out BK245.out (by decide)) e_) hs_)); have n5_ := Aside0.mk (qq (sqK BK246.out) hkp (fun hs_ => (fun e_ => (Kd.jd HO_268001.out BK246.out (by decide)) e_) hs_)); have n6_ := Aside0.mk (qq (sqK BK262.out) hkp (fun hs_ => (fun e_ => (Kd.jd HO_268001.out BK262.out (by decide)) e_) hs_)); have n7_ := Aside0.mk (qq (sqK BK267.out) hkp (fun hs_ => (fun e_ => (Kd.jd HO_268001.out BK267.out (by decide)) e_) hs_)); have n8_ := Aside0.mk (qq (sqK BK272.out) hkp (fun hs_ => (fun e_ => (Kd.jd HO_268001.out BK272.out (by decide)) e_) hs_)); have n9_ := Aside0.mk (qq (sqK BK278.out) hkp (fun hs_ => (fun e_ => (Kd.jd HO_268001.out BK278.out (by decide)) e_) hs_)); have n10_ := Aside0.mk (Kd.zo (ok' := fun k_ => some k_ ≠ (.slice Ao42 t258.length co42 : Value).ownBlock ∧ some k_ ≠ (.slice Ao52 t264.length co52 : Value).ownBlock ∧ some k_ ≠ (.slice Ao62 t269.length co62 : Value).ownBlock ∧ some k_ ≠ (.slice Ao72 t274.length co72 : Value).ownBlock ∧ some k_ ≠ (.slice Ao115 t286.length co115 : Value).ownBlock) (Kd.qT (HO283.out) hkp (fun k_ hk_ hs_ => by first | exact hk_.1.1.1.2 hs_ | (have e_ : some k_ = _ := hs_; simp only [e_, ne_eq, not_true_eq_false, and_false, false_and] at hk_))) (fun k_ hk_ => by first | exact ⟨hk_.1.1.1.1.1.2, hk_.1.1.1.1.2, hk_.1.1.1.2, hk_.1.1.2, hk_.1.2⟩ | (refine ⟨?_, ?_, ?_, ?_, ?_⟩ <;> intro e_ <;> simp only [e_, ne_eq, not_true_eq_false, and_false, false_and] at hk_))); have n11_ := Aside0.mk (Kd.zo (ok' := fun k_ => some k_ ≠ (.slice Ao42 t258.length co42 : Value).ownBlock ∧ some k_ ≠ (.slice Ao52 t264.length co52 : Value).ownBlock ∧ some k_ ≠ (.slice Ao62 t269.length co62 : Value).ownBlock ∧ some k_ ≠ (.slice Ao72 t274.length co72 : Value).ownBlock ∧ some k_ ≠ (.slice Ao111 t281.length co111 : Value).ownBlock) (Kd.qT (HO288.out) hkp (fun k_ hk_ hs_ => by first | exact hk_.1.1.1.2 hs_ | (have e_ : some k_ = _ := hs_; simp only [e_, ne_eq, not_true_eq_false, and_false, false_and] at hk_))) (fun k_ hk_ => by first | exact ⟨hk_.1.1.1.1.1.2, hk_.1.1.1.1.2, hk_.1.1.1.2, hk_.1.1.2, hk_.1.2⟩ | (refine ⟨?_, ?_, ?_, ?_, ?_⟩ <;> intro e_ <;> simp only [e_, ne_eq, not_true_eq_false, and_false, false_and] at hk_))); have n12_ := Aside0.mk (hb); clear HO_263001; clear HO_268001; clear HO_273001; clear HO_279001; clear BK245; clear BK246; clear BK262; clear BK267; clear BK272; clear BK278; clear HO283; clear HO288; clear HB; have HO_263001 := n0_; have HO_268001 := n1_; have HO_273001 := n2_; have HO_279001 := n3_; have BK245 := n4_; have BK246 := n5_; have BK262 := n6_; have BK267 := n7_; have BK272 := n8_; have BK278 := n9_; have HO283 := n10_; have HO288 := n11_; have HB := n12_; clear n0_ n1_ n2_ n3_ n4_ n5_ n6_ n7_ n8_ n9_ n10_ n11_ n12_; (try clear hb); (try clear hkp); (try clear hy0); have hnb124 := NB272_245.out; have hnc124 := NB245_272.out; have hnb125 := NB272_246.out; have hnc125 := NB246_272.out; have hnb126 := NB272_262.out; have hnc126 := NB262_272.out; have hnb127 := NB272_278.out; have hnc127 := NB278_272.out; have hcz128_0 : w123.cell? ⟨gb272, 0, none⟩ = some (.int .i64 t268) := (za BK272.out 0).trans rfl; have hcz128_1 : w123.cell? ⟨gb272, 1, none⟩ = some (.slice Ao62 t269.length co62) := (za BK272.out 1).trans rfl; have hfz128_0 := zd BK272.out 0; have hfz128_1 := zd BK272.out 1) | ((with_reducible refine zn (f := 16) rfl ?_); refine zN (some 69) rfl rfl Try.func16 (by kernel_rfl) rfl #[.agg #[.int .i64 t268, .slice Ao62 t269.length co62], .int .i64 t290] rfl sqM ?_; (with_reducible refine (zz.calls kj24 t268 (fun k_ => some k_ = (.slice Ao62 t269.length co62 : Value).ownBlock) (.slice Ao62 t269.length co62) t269 t290 t292 t293 w _ ?side1 ?side2 A107.out).mono ?_); (case side1 => repeat (first | (with_reducible first | exact HB.out | apply qu | apply zQ | apply zT | refine zV ?_ GE245.out | refine zV ?_ GE246.out | refine zV ?_ GE262.out | refine zV ?_ GE267.out | refine zV ?_ GE272.out | refine zV ?_ GE278.out) | exact HB.out)); (case side2 => exact Kd.vB rfl HO_273001.out); rintro e w129 ⟨rfl, hy0, hb, hkp⟩; refine ⟨_, rfl, ?_⟩; have n0_ := Aside0.mk (Kd.zo (ok' := fun k_ => some k_ ≠ (.slice Ao52 t264.length co52 : Value).ownBlock ∧ some k_ ≠ (.slice Ao62 t269.length co62 : Value).ownBlock ∧ some k_ ≠ (.slice Ao72 t274.length co72 : Value).ownBlock ∧ some k_ ≠ (.slice Ao111 t281.length co111 : Value).ownBlock ∧ some k_ ≠ (.slice Ao115 t286.length co115 : Value).ownBlock) (Kd.qT (HO_263001.out) hkp (fun k_ hk_ hs_ => by first | exact hk_.2.1 hs_ | (have e_ : some k_ = _ := hs_; simp only [e_, ne_eq, not_true_eq_false, and_false, false_and] at hk_))) (fun k_ hk_ => by first | exact ⟨hk_.1.1, hk_.1.2.1, hk_.1.2.2.1, hk_.1.2.2.2.1, hk_.1.2.2.2.2⟩ | (refine ⟨?_, ?_, ?_, ?_, ?_⟩ <;> intro e_ <;> simp only [e_, ne_eq, not_true_eq_false, and_false, false_and] at hk_))); have n1_ := Aside0.mk (Kd.zo (ok' := fun k_ => some k_ ≠ (.slice Ao42 t258.length co42 : Value).ownBlock ∧ some k_ ≠ (.slice Ao62 t269.length co62 : Value).ownBlock ∧ some k_ ≠ (.slice Ao72 t274.length co72 : Value).ownBlock ∧ some k_ ≠ (.slice Ao111 t281.length co111 : Value).ownBlock ∧ some k_ ≠ (.slice Ao115 t286.length co115 : Value).ownBlock) (Kd.qT (HO_268001.out) hkp (fun k_ hk_ hs_ => by first | exact hk_.1.1.2.1 hs_ | (have e_ : some k_ = _ := hs_; simp only [e_, ne_eq, not_true_eq_false, and_false, false_and] at hk_))) (fun k_ hk_ => by first | exact ⟨hk_.1.1.1.1, hk_.1.1.1.2.1, hk_.1.1.1.2.2, hk_.1.1.2, hk_.1.2⟩ | (refine ⟨?_, ?_, ?_, ?_, ?_⟩ <;> intro e_ <;> simp only [e_, ne_eq, not_true_eq_false, and_false, false_and] at hk_))); have n2_ := Aside0.mk (Kd.Zd rfl hy0 (fun k_ e_ => HO_273001.out.1 k_ e_)); have n3_ := Aside0.mk (Kd.zo (ok' := fun k_ => some k_ ≠ (.slice Ao42 t258.length co42 : Value).ownBlock ∧ some k_ ≠ (.slice Ao52 t264.length co52 : Value).ownBlock ∧ some k_ ≠ (.slice Ao62 t269.length co62 : Value).ownBlock ∧ some k_ ≠ (.slice Ao111 t281.length co111 : Value).ownBlock ∧ some k_ ≠ (.slice Ao115 t286.length co115 : Value).ownBlock) (Kd.qT (HO_279001.out) hkp (fun k_ hk_ hs_ => by first | exact hk_.2.2.1 hs_ | (have e_ : some k_ = _ := hs_; simp only [e_, ne_eq, not_true_eq_false, and_false, false_and] at hk_))) (fun k_ hk_ => by first | exact ⟨hk_.1.1, hk_.1.2.1, hk_.1.2.2.1, hk_.1.2.2.2.1, hk_.1.2.2.2.2⟩ | (refine ⟨?_, ?_, ?_, ?_, ?_⟩ <;> intro e_ <;> simp only [e_, ne_eq, not_true_eq_false, and_false, false_and] at hk_))); have n4_ := Aside0.mk (qq (sqK BK245.out) hkp (fun hs_ => (fun e_ => (Kd.jd HO_273001.out BK245.out (by decide)) e_) hs_)); have n5_ := Aside0.mk (qq (sqK BK246.out) hkp (fun hs_ => (fun e_ => (Kd.jd HO_273001.out BK246.out (by decide)) e_) hs_)); have n6_ := Aside0.mk (qq (sqK BK262.out) hkp (fun hs_ => (fun e_ => (Kd.jd HO_273001.out BK262.out (by decide)) e_) hs_)); have n7_ := Aside0.mk (qq (sqK BK267.out) hkp (fun hs_ => (fun e_ => (Kd.jd HO_273001.out BK267.out (by decide)) e_) hs_)); have n8_ := Aside0.mk (qq (sqK BK272.out) hkp (fun hs_ => (fun e_ => (Kd.jd HO_273001.out BK272.out (by decide)) e_) hs_)); have n9_ := Aside0.mk (qq (sqK BK278.out) hkp (fun hs_ => (fun e_ => (Kd.jd HO_273001.out BK278.out (by decide)) e_) hs_)); have n10_ := Aside0.mk (Kd.zo (ok' := fun k_ => some k_ ≠ (.slice Ao42 t258.length co42 : Value).ownBlock ∧ some k_ ≠ (.slice Ao52 t264.length co52 : Value).ownBlock ∧ some k_ ≠ (.slice Ao62 t269.length co62 : Value).ownBlock ∧ some k_ ≠ (.slice Ao72 t274.length co72 : Value).ownBlock ∧ some k_ ≠ (.slice Ao115 t286.length co115 : Value).ownBlock) (Kd.qT (HO283.out) hkp (fun k_ hk_ hs_ => by first | exact hk_.2.2.1 hs_ | (have e_ : some k_ = _ := hs_; simp only [e_, ne_eq, not_true_eq_false, and_false, false_and] at hk_))) (fun k_ hk_ => by first | exact ⟨hk_.1.1, hk_.1.2.1, hk_.1.2.2.1, hk_.1.2.2.2.1, hk_.1.2.2.2.2⟩ | (refine ⟨?_, ?_, ?_, ?_, ?_⟩ <;> intro e_ <;> simp only [e_, ne_eq, not_true_eq_false, and_false, false_and] at hk_))); have n11_ := Aside0.mk (Kd.zo (ok' := fun k_ => some k_ ≠ (.slice Ao42 t258.length co42 : Value).ownBlock ∧ some k_ ≠ (.slice Ao52 t264.length co52 : Value).ownBlock ∧ some k_ ≠ (.slice Ao62 t269.length co62 : Value).ownBlock ∧ some k_ ≠ (.slice Ao72 t274.length co72 : Value).ownBlock ∧ some k_ ≠ (.slice Ao111 t281.length co111 : Value).ownBlock) (Kd.qT (HO288.out) hkp (fun k_ hk_ hs_ => by first | exact hk_.2.2.1 hs_ | (have e_ : some k_ = _ := hs_; simp only [e_, ne_eq, not_true_eq_false, and_false, false_and] at hk_))) (fun k_ hk_ => by first | exact ⟨hk_.1.1, hk_.1.2.1, hk_.1.2.2.1, hk_.1.2.2.2.1, hk_.1.2.2.2.2⟩ | (refine ⟨?_, ?_, ?_, ?_, ?_⟩ <;> intro e_ <;> simp only [e_, ne_eq, not_true_eq_false, and_false, false_and] at hk_))); have n12_ := Aside0.mk (hb); clear HO_263001; clear HO_268001; clear HO_273001; clear HO_279001; clear BK245; clear BK246; clear BK262; clear BK267; clear BK272; clear BK278; clear HO283; clear HO288; clear HB; have HO_263001 := n0_; have HO_268001 := n1_; have HO_273001 := n2_; have HO_279001 := n3_; have BK245 := n4_; have BK246 := n5_; have BK262 := n6_; have BK267 := n7_; have BK272 := n8_; have BK278 := n9_; have HO283 := n10_; have HO288 := n11_; have HB := n12_; clear n0_ n1_ n2_ n3_ n4_ n5_ n6_ n7_ n8_ n9_ n10_ n11_ n12_; (try clear hb); (try clear hkp); (try clear hy0)))
        (try simp only [Act.put, List.setIfInBounds_toArray, List.set_cons_zero, List.set_cons_succ])
        go_cut [82] (fun v82 wc => ∃ (kq : Nat) (x82_107 : Bool), v82 = .bool x82_107 ∧ Aside0 (zc.j1 kq t261 x82_107 a0_0 l0_1 a1_0 l1_1 t257 t258 t273 t274 = some r) ∧ Aside0 (kq ≤ kj24) ∧ Aside0 (Kd.R (Kd.int .i64) 3 wc w.heap.size (fun k_ => some k_ ≠ ((.slice Ao52 t264.length co52) : Value).ownBlock ∧ some k_ ≠ ((.slice Ao62 t269.length co62) : Value).ownBlock ∧ some k_ ≠ ((.slice Ao72 t274.length co72) : Value).ownBlock) (.slice Ao42 t258.length co42) t258) ∧ Aside0 (Kd.R (Kd.int .i64) 3 wc w.heap.size (fun k_ => some k_ ≠ ((.slice Ao42 t258.length co42) : Value).ownBlock ∧ some k_ ≠ ((.slice Ao62 t269.length co62) : Value).ownBlock ∧ some k_ ≠ ((.slice Ao72 t274.length co72) : Value).ownBlock) (.slice Ao52 t264.length co52) t291) ∧ Aside0 (Kd.R (Kd.int .i64) 3 wc w.heap.size (fun k_ => some k_ ≠ ((.slice Ao42 t258.length co42) : Value).ownBlock ∧ some k_ ≠ ((.slice Ao52 t264.length co52) : Value).ownBlock ∧ some k_ ≠ ((.slice Ao72 t274.length co72) : Value).ownBlock) (.slice Ao62 t269.length co62) t293) ∧ Aside0 (Kd.R (Kd.int .i64) 3 wc w.heap.size (fun k_ => some k_ ≠ ((.slice Ao42 t258.length co42) : Value).ownBlock ∧ some k_ ≠ ((.slice Ao52 t264.length co52) : Value).ownBlock ∧ some k_ ≠ ((.slice Ao62 t269.length co62) : Value).ownBlock) (.slice Ao72 t274.length co72) t274) ∧ Aside0 (wc.heap[gb245]? = some (.cells #[.int .i64 a0_0, (.slice A0_1 l0_1.length c0_1)] 24 (0, 0))) ∧ Aside0 (wc.heap[gb246]? = some (.cells #[.int .i64 a1_0, (.slice A1_1 l1_1.length c1_1)] 24 (0, 0))) ∧ Aside0 (wc.heap[gb262]? = some (.cells #[.int .i64 t257, (.slice Ao42 t258.length co42)] 26 (0, 0))) ∧ Aside0 (wc.heap[gb267]? = some (.cells #[.int .i64 t263, (.slice Ao52 t264.length co52)] 26 (0, 0))) ∧ Aside0 (wc.heap[gb272]? = some (.cells #[.int .i64 t268, (.slice Ao62 t269.length co62)] 26 (0, 0))) ∧ Aside0 (wc.heap[gb278]? = some (.cells #[.int .i64 t273, (.slice Ao72 t274.length co72)] 26 (0, 0))) ∧ Aside0 (Below w.heap.size w wc))
        case first =>
         have H := HC108.out
         clear HC108
         by_cases c130 : t292 < 0
         ·rw [if_pos c130] at H
          have c130b0 : decide (t292 < 0) = true := decide_eq_true c130
          clear c130
          (first | rw [c130b0] | (simp only [zi, zj]; rw [c130b0]) | skip)
          have H' := Aside0.mk H
          clear H
          go_wp2
          go_meet
          case rel => exact ⟨_, (true), (sqD), H', ⟨by have := HJ24.out; first | omega | exact Nat.le_refl _⟩, ⟨by refine sqR ?_; exact Kd.zo HO_263001.out (fun _ hk => by first | exact ⟨hk.1, ⟨hk.2.1, hk.2.2.1⟩⟩ | (refine ⟨?_, ?_, ?_⟩ <;> intro e_ <;> simp only [e_, ne_eq, not_true_eq_false, and_false, false_and] at hk))⟩, ⟨by refine sqR ?_; exact Kd.zo HO_268001.out (fun _ hk => by first | exact ⟨hk.1, ⟨hk.2.1, hk.2.2.1⟩⟩ | (refine ⟨?_, ?_, ?_⟩ <;> intro e_ <;> simp only [e_, ne_eq, not_true_eq_false, and_false, false_and] at hk))⟩, ⟨by refine sqR ?_; exact Kd.zo HO_273001.out (fun _ hk => by first | exact ⟨hk.1, ⟨hk.2.1, hk.2.2.1⟩⟩ | (refine ⟨?_, ?_, ?_⟩ <;> intro e_ <;> simp only [e_, ne_eq, not_true_eq_false, and_false, false_and] at hk))⟩, ⟨by refine sqR ?_; exact Kd.zo HO_279001.out (fun _ hk => by first | exact ⟨hk.1, ⟨hk.2.1, hk.2.2.1⟩⟩ | (refine ⟨?_, ?_, ?_⟩ <;> intro e_ <;> simp only [e_, ne_eq, not_true_eq_false, and_false, false_and] at hk))⟩, ⟨sqK BK245.out⟩, ⟨sqK BK246.out⟩, ⟨sqK BK262.out⟩, ⟨sqK BK267.out⟩, ⟨sqK BK272.out⟩, ⟨sqK BK278.out⟩, ⟨sqB⟩⟩
         ·rw [if_neg c130] at H
          have c130b0 : decide (t292 < 0) = false := decide_eq_false c130
          clear c130
          (first | rw [c130b0] | (simp only [zi, zj]; rw [c130b0]) | skip)
          replace H := Option.bind_eq_some_iff.mp H
          obtain ⟨t294, A1310, H⟩ := H
          replace H : (if t294 = true then (zc.j1 kj24 t261 (t277 != t261) a0_0 l0_1 a1_0 l1_1 t257 t258 t273 t274) else (zc.j1 kj24 t261 true a0_0 l0_1 a1_0 l1_1 t257 t258 t273 t274)) = some r := H
          have A131 := Aside0.mk A1310
          clear A1310
          by_cases c132 : t294 = true
          ·subst c132
           have H1 : (zc.j1 kj24 t261 (t277 != t261) a0_0 l0_1 a1_0 l1_1 t257 t258 t273 t274) = some r := by rw [if_pos rfl] at H; exact H
           clear H
           have H := H1
           clear H1
           have H' := Aside0.mk H
           clear H
           have hnb133 := NB278_245.out
           have hnc133 := NB245_278.out
           have hnb134 := NB278_246.out
           have hnc134 := NB246_278.out
           have hnb135 := NB278_262.out
           have hnc135 := NB262_278.out
           have hnb136 := NB278_267.out
           have hnc136 := NB267_278.out
           have hnb137 := NB278_272.out
           have hnc137 := NB272_278.out
           have hcz138_0 : w129.cell? ⟨gb278, 0, none⟩ = some (.int .i64 t273) := (za BK278.out 0).trans rfl
           have hcz138_1 : w129.cell? ⟨gb278, 1, none⟩ = some (.slice Ao72 t274.length co72) := (za BK278.out 1).trans rfl
           have hfz138_0 := zd BK278.out 0; have hfz138_1 := zd BK278.out 1
           have hnb139 := NB262_245.out
           have hnc139 := NB245_262.out
           have hnb140 := NB262_246.out
           have hnc140 := NB246_262.out
           have hnb141 := NB262_267.out
           have hnc141 := NB267_262.out
           have hnb142 := NB262_272.out
           have hnc142 := NB272_262.out
           have hcz143_0 : w129.cell? ⟨gb262, 0, none⟩ = some (.int .i64 t257) := (za BK262.out 0).trans rfl
           have hcz143_1 : w129.cell? ⟨gb262, 1, none⟩ = some (.slice Ao42 t258.length co42) := (za BK262.out 1).trans rfl
           have hfz143_0 := zd BK262.out 0; have hfz143_1 := zd BK262.out 1
           go_wp2_with (first | (go_at_call 15; (try simp only [zi, zj]); (with_reducible refine (zr.calls kj24 t273 _ _ t274 t257 _ _ t258 true _ ?side1 ?side2 ?side3 ?side4 A131.out).mono ?_); (case side1 => exact sqC (Kd.zq HO_279001.out).2.2); (case side2 => exact (Kd.zq HO_279001.out).2.1); (case side3 => exact sqC (Kd.zq HO_263001.out).2.2); (case side4 => exact (Kd.zq HO_263001.out).2.1); rintro e w144 ⟨rfl, hb⟩; have n0_ := Aside0.mk (Kd.zu (sqR HO_263001.out) hb); have n1_ := Aside0.mk (Kd.zu (sqR HO_268001.out) hb); have n2_ := Aside0.mk (Kd.zu (sqR HO_273001.out) hb); have n3_ := Aside0.mk (Kd.zu (sqR HO_279001.out) hb); have n4_ := Aside0.mk (Kd.zu (sqR HO283.out) hb); have n5_ := Aside0.mk (Kd.zu (sqR HO288.out) hb); have n6_ := Aside0.mk (zb (g := gb245) (o := .cells #[.int .i64 a0_0, .slice A0_1 l0_1.length c0_1] 24 (0, 0)) (sqK BK245.out) hb); have n7_ := Aside0.mk (zb (g := gb246) (o := .cells #[.int .i64 a1_0, .slice A1_1 l1_1.length c1_1] 24 (0, 0)) (sqK BK246.out) hb); have n8_ := Aside0.mk (zb (g := gb262) (o := .cells #[.int .i64 t257, .slice Ao42 t258.length co42] 26 (0, 0)) (sqK BK262.out) hb); have n9_ := Aside0.mk (zb (g := gb267) (o := .cells #[.int .i64 t263, .slice Ao52 t264.length co52] 26 (0, 0)) (sqK BK267.out) hb); have n10_ := Aside0.mk (zb (g := gb272) (o := .cells #[.int .i64 t268, .slice Ao62 t269.length co62] 26 (0, 0)) (sqK BK272.out) hb); have n11_ := Aside0.mk (zb (g := gb278) (o := .cells #[.int .i64 t273, .slice Ao72 t274.length co72] 26 (0, 0)) (sqK BK278.out) hb); have n12_ := Aside0.mk (ze sqB hb); clear HO_263001; clear HO_268001; clear HO_273001; clear HO_279001; clear HO283; clear HO288; clear BK245; clear BK246; clear BK262; clear BK267; clear BK272; clear BK278; clear HB; have HO_263001 := n0_; have HO_268001 := n1_; have HO_273001 := n2_; have HO_279001 := n3_; have HO283 := n4_; have HO288 := n5_; have BK245 := n6_; have BK246 := n7_; have BK262 := n8_; have BK267 := n9_; have BK272 := n10_; have BK278 := n11_; have HB := n12_; clear n0_ n1_ n2_ n3_ n4_ n5_ n6_ n7_ n8_ n9_ n10_ n11_ n12_; (try clear hb); (try clear hb2); (try clear hk); (try clear hi)))
           go_meet
           case rel => exact ⟨_, ((t277 != t261)), (sqD), H', ⟨by have := HJ24.out; first | omega | exact Nat.le_refl _⟩, ⟨by refine sqR ?_; exact Kd.zo HO_263001.out (fun _ hk => by first | exact ⟨hk.1, ⟨hk.2.1, hk.2.2.1⟩⟩ | (refine ⟨?_, ?_, ?_⟩ <;> intro e_ <;> simp only [e_, ne_eq, not_true_eq_false, and_false, false_and] at hk))⟩, ⟨by refine sqR ?_; exact Kd.zo HO_268001.out (fun _ hk => by first | exact ⟨hk.1, ⟨hk.2.1, hk.2.2.1⟩⟩ | (refine ⟨?_, ?_, ?_⟩ <;> intro e_ <;> simp only [e_, ne_eq, not_true_eq_false, and_false, false_and] at hk))⟩, ⟨by refine sqR ?_; exact Kd.zo HO_273001.out (fun _ hk => by first | exact ⟨hk.1, ⟨hk.2.1, hk.2.2.1⟩⟩ | (refine ⟨?_, ?_, ?_⟩ <;> intro e_ <;> simp only [e_, ne_eq, not_true_eq_false, and_false, false_and] at hk))⟩, ⟨by refine sqR ?_; exact Kd.zo HO_279001.out (fun _ hk => by first | exact ⟨hk.1, ⟨hk.2.1, hk.2.2.1⟩⟩ | (refine ⟨?_, ?_, ?_⟩ <;> intro e_ <;> simp only [e_, ne_eq, not_true_eq_false, and_false, false_and] at hk))⟩, ⟨sqK BK245.out⟩, ⟨sqK BK246.out⟩, ⟨sqK BK262.out⟩, ⟨sqK BK267.out⟩, ⟨sqK BK272.out⟩, ⟨sqK BK278.out⟩, ⟨sqB⟩⟩
          ·replace c132 := Bool.eq_false_iff.mpr c132
           subst c132
           have H1 : (zc.j1 kj24 t261 true a0_0 l0_1 a1_0 l1_1 t257 t258 t273 t274) = some r := by rw [if_neg (show ¬ (false = true) by decide)] at H; exact H
           clear H
           have H := H1
           clear H1
           have H' := Aside0.mk H
           clear H
           have hnb145 := NB278_245.out
           have hnc145 := NB245_278.out
           have hnb146 := NB278_246.out
           have hnc146 := NB246_278.out
           have hnb147 := NB278_262.out
           have hnc147 := NB262_278.out
           have hnb148 := NB278_267.out
           have hnc148 := NB267_278.out
           have hnb149 := NB278_272.out
           have hnc149 := NB272_278.out
           have hcz150_0 : w129.cell? ⟨gb278, 0, none⟩ = some (.int .i64 t273) := (za BK278.out 0).trans rfl
           have hcz150_1 : w129.cell? ⟨gb278, 1, none⟩ = some (.slice Ao72 t274.length co72) := (za BK278.out 1).trans rfl
           have hfz150_0 := zd BK278.out 0; have hfz150_1 := zd BK278.out 1
           have hnb151 := NB262_245.out
           have hnc151 := NB245_262.out
           have hnb152 := NB262_246.out
           have hnc152 := NB246_262.out
           have hnb153 := NB262_267.out
           have hnc153 := NB267_262.out
           have hnb154 := NB262_272.out
           have hnc154 := NB272_262.out
           have hcz155_0 : w129.cell? ⟨gb262, 0, none⟩ = some (.int .i64 t257) := (za BK262.out 0).trans rfl
           have hcz155_1 : w129.cell? ⟨gb262, 1, none⟩ = some (.slice Ao42 t258.length co42) := (za BK262.out 1).trans rfl
           have hfz155_0 := zd BK262.out 0; have hfz155_1 := zd BK262.out 1
           go_wp2_with (first | (go_at_call 15; (try simp only [zi, zj]); (with_reducible refine (zr.calls kj24 t273 _ _ t274 t257 _ _ t258 false _ ?side1 ?side2 ?side3 ?side4 A131.out).mono ?_); (case side1 => exact sqC (Kd.zq HO_279001.out).2.2); (case side2 => exact (Kd.zq HO_279001.out).2.1); (case side3 => exact sqC (Kd.zq HO_263001.out).2.2); (case side4 => exact (Kd.zq HO_263001.out).2.1); rintro e w156 ⟨rfl, hb⟩; have n0_ := Aside0.mk (Kd.zu (sqR HO_263001.out) hb); have n1_ := Aside0.mk (Kd.zu (sqR HO_268001.out) hb); have n2_ := Aside0.mk (Kd.zu (sqR HO_273001.out) hb); have n3_ := Aside0.mk (Kd.zu (sqR HO_279001.out) hb); have n4_ := Aside0.mk (Kd.zu (sqR HO283.out) hb); have n5_ := Aside0.mk (Kd.zu (sqR HO288.out) hb); have n6_ := Aside0.mk (zb (g := gb245) (o := .cells #[.int .i64 a0_0, .slice A0_1 l0_1.length c0_1] 24 (0, 0)) (sqK BK245.out) hb); have n7_ := Aside0.mk (zb (g := gb246) (o := .cells #[.int .i64 a1_0, .slice A1_1 l1_1.length c1_1] 24 (0, 0)) (sqK BK246.out) hb); have n8_ := Aside0.mk (zb (g := gb262) (o := .cells #[.int .i64 t257, .slice Ao42 t258.length co42] 26 (0, 0)) (sqK BK262.out) hb); have n9_ := Aside0.mk (zb (g := gb267) (o := .cells #[.int .i64 t263, .slice Ao52 t264.length co52] 26 (0, 0)) (sqK BK267.out) hb); have n10_ := Aside0.mk (zb (g := gb272) (o := .cells #[.int .i64 t268, .slice Ao62 t269.length co62] 26 (0, 0)) (sqK BK272.out) hb); have n11_ := Aside0.mk (zb (g := gb278) (o := .cells #[.int .i64 t273, .slice Ao72 t274.length co72] 26 (0, 0)) (sqK BK278.out) hb); have n12_ := Aside0.mk (ze sqB hb); clear HO_263001; clear HO_268001; clear HO_273001; clear HO_279001; clear HO283; clear HO288; clear BK245; clear BK246; clear BK262; clear BK267; clear BK272; clear BK278; clear HB; have HO_263001 := n0_; have HO_268001 := n1_; have HO_273001 := n2_; have HO_279001 := n3_; have HO283 := n4_; have HO288 := n5_; have BK245 := n6_; have BK246 := n7_; have BK262 := n8_; have BK267 := n9_; have BK272 := n10_; have BK278 := n11_; have HB := n12_; clear n0_ n1_ n2_ n3_ n4_ n5_ n6_ n7_ n8_ n9_ n10_ n11_ n12_; (try clear hb); (try clear hb2); (try clear hk); (try clear hi)))
           go_meet
           case rel => exact ⟨_, (true), (sqD), H', ⟨by have := HJ24.out; first | omega | exact Nat.le_refl _⟩, ⟨by refine sqR ?_; exact Kd.zo HO_263001.out (fun _ hk => by first | exact ⟨hk.1, ⟨hk.2.1, hk.2.2.1⟩⟩ | (refine ⟨?_, ?_, ?_⟩ <;> intro e_ <;> simp only [e_, ne_eq, not_true_eq_false, and_false, false_and] at hk))⟩, ⟨by refine sqR ?_; exact Kd.zo HO_268001.out (fun _ hk => by first | exact ⟨hk.1, ⟨hk.2.1, hk.2.2.1⟩⟩ | (refine ⟨?_, ?_, ?_⟩ <;> intro e_ <;> simp only [e_, ne_eq, not_true_eq_false, and_false, false_and] at hk))⟩, ⟨by refine sqR ?_; exact Kd.zo HO_273001.out (fun _ hk => by first | exact ⟨hk.1, ⟨hk.2.1, hk.2.2.1⟩⟩ | (refine ⟨?_, ?_, ?_⟩ <;> intro e_ <;> simp only [e_, ne_eq, not_true_eq_false, and_false, false_and] at hk))⟩, ⟨by refine sqR ?_; exact Kd.zo HO_279001.out (fun _ hk => by first | exact ⟨hk.1, ⟨hk.2.1, hk.2.2.1⟩⟩ | (refine ⟨?_, ?_, ?_⟩ <;> intro e_ <;> simp only [e_, ne_eq, not_true_eq_false, and_false, false_and] at hk))⟩, ⟨sqK BK245.out⟩, ⟨sqK BK246.out⟩, ⟨sqK BK262.out⟩, ⟨sqK BK267.out⟩, ⟨sqK BK272.out⟩, ⟨sqK BK278.out⟩, ⟨sqB⟩⟩
        case rest =>
         clear HC108
         try clear c1
         try clear p2
         try clear c7
         try clear c8
         try clear c9
         try clear c10
         try clear c11
         try clear c12
         try clear c13
         try clear c14
         try clear c15
         try clear c16
         try clear c70
         try clear c74
         try clear c75
         try clear c76
         try clear c77
         try clear c78
         try clear c79
         try clear c81
         try clear c82
         try clear c83
         try clear c84
         try clear c87
         try clear c88
         try clear c89
         try clear c90
         try clear c91
         try clear c93
         try clear c94
         try clear c95
         try clear c96
         try clear c99
         try clear c102
         try clear c105
         try clear c117
         try clear c118
         try clear c119
         try clear c120
         try clear c121
         try clear c124
         try clear c125
         try clear c126
         try clear c127
         try clear c130
         try clear c130b0
         try clear c132
         try clear c133
         try clear c134
         try clear c135
         try clear c136
         try clear c137
         try clear c139
         try clear c140
         try clear c141
         try clear c142
         try clear c145
         try clear c146
         try clear c147
         try clear c148
         try clear c149
         try clear c151
         try clear c152
         try clear c153
         try clear c154
         try clear hcz122_0
         try clear hcz122_1
         try clear hcz128_0
         try clear hcz128_1
         try clear hcz138_0
         try clear hcz138_1
         try clear hcz143_0
         try clear hcz143_1
         try clear hcz150_0
         try clear hcz150_1
         try clear hcz155_0
         try clear hcz155_1
         try clear hcz45_0
         try clear hcz45_1
         try clear hcz51_0
         try clear hcz51_1
         try clear hcz54_0
         try clear hcz54_1
         try clear hcz61_0
         try clear hcz61_1
         try clear hcz63_0
         try clear hcz63_1
         try clear hcz71_0
         try clear hcz71_1
         try clear hcz80_0
         try clear hcz80_1
         try clear hcz85_0
         try clear hcz85_1
         try clear hcz92_0
         try clear hcz92_1
         try clear hcz97_0
         try clear hcz97_1
         try clear hfz122_0
         try clear hfz122_1
         try clear hfz128_0
         try clear hfz128_1
         try clear hfz138_0
         try clear hfz138_1
         try clear hfz143_0
         try clear hfz143_1
         try clear hfz150_0
         try clear hfz150_1
         try clear hfz155_0
         try clear hfz155_1
         try clear hfz45_0
         try clear hfz45_1
         try clear hfz51_0
         try clear hfz51_1
         try clear hfz54_0
         try clear hfz54_1
         try clear hfz61_0
         try clear hfz61_1
         try clear hfz63_0
         try clear hfz63_1
         try clear hfz71_0
         try clear hfz71_1
         try clear hfz80_0
         try clear hfz80_1
         try clear hfz85_0
         try clear hfz85_1
         try clear hfz92_0
         try clear hfz92_1
         try clear hfz97_0
         try clear hfz97_1
         obtain ⟨kq, x82_107, rfl, HA, HJ107, HO_263001, HO_268001, HO_273001, HO_279001, BK245, BK246, BK262, BK267, BK272, BK278, HB⟩ := hcut
         have hl268001_107 := (Kd.zq HO_268001.out).1
         rw [hl268001_107] at HO_268001
         (try simp only [hl268001_107])
         (try simp only [hl268001_107] at BK245)
         (try simp only [hl268001_107] at BK246)
         (try simp only [hl268001_107] at BK262)
         (try simp only [hl268001_107] at BK267)
         (try simp only [hl268001_107] at BK272)
         (try simp only [hl268001_107] at BK278)
         (try simp only [hl268001_107] at HO_263001)
         (try simp only [hl268001_107] at HO_273001)
         (try simp only [hl268001_107] at HO_279001)
         have hl273001_107 := (Kd.zq HO_273001.out).1
         rw [hl273001_107] at HO_273001
         (try simp only [hl273001_107])
         (try simp only [hl273001_107] at BK245)
         (try simp only [hl273001_107] at BK246)
         (try simp only [hl273001_107] at BK262)
         (try simp only [hl273001_107] at BK267)
         (try simp only [hl273001_107] at BK272)
         (try simp only [hl273001_107] at BK278)
         (try simp only [hl273001_107] at HO_263001)
         (try simp only [hl273001_107] at HO_268001)
         (try simp only [hl273001_107] at HO_279001)
         cases kq with
         | zero => exact absurd HA.out (by simp [zc.j1])
         | succ kj107 =>
          have H := HA.out
          clear HA
          simp only [zc.j1] at H
          by_cases c157 : x82_107 = true
          ·subst c157
           have H1 : (none) = some r := by rw [if_pos rfl] at H; exact H
           clear H
           have H := H1
           clear H1
           exact absurd H (by simp)
          ·replace c157 := Bool.eq_false_iff.mpr c157
           subst c157
           have H1 : ((zz.f kj107 t273 t274 1).bind fun bt295 => ((qe.f kj107 t273 bt295.2 1).bind fun t297 => (if t297 < 0 then (none) else (if t297 = bt295.1 then ((zl.f kj107 a0_0 l0_1).bind fun bt298 => ((zl.f kj107 a1_0 l1_1).bind fun bt302 => ((zg.f kj107 bt298.1 bt298.2 bt302.1 bt302.2).bind fun bt306 => ((zr.f kj107 bt306.1 bt306.2.1 t257 t258).bind fun t312 => (if t312 = true then (zc.j2 kj107 bt295.1 (bt306.2.2 != t261) t273 bt295.2) else (zc.j2 kj107 bt295.1 true t273 bt295.2)))))) else (none))))) = some r := by rw [if_neg (show ¬ (false = true) by decide)] at H; exact H
           clear H
           have H := H1
           clear H1
           replace H := Option.bind_eq_some_iff.mp H
           obtain ⟨⟨t295, t296⟩, A1580, H⟩ := H
           replace H : ((qe.f kj107 t273 t296 1).bind fun t297 => (if t297 < 0 then (none) else (if t297 = t295 then ((zl.f kj107 a0_0 l0_1).bind fun bt298 => ((zl.f kj107 a1_0 l1_1).bind fun bt302 => ((zg.f kj107 bt298.1 bt298.2 bt302.1 bt302.2).bind fun bt306 => ((zr.f kj107 bt306.1 bt306.2.1 t257 t258).bind fun t312 => (if t312 = true then (zc.j2 kj107 t295 (bt306.2.2 != t261) t273 t296) else (zc.j2 kj107 t295 true t273 t296)))))) else (none)))) = some r := H
           have A158 := Aside0.mk A1580
           clear A1580
           replace H := Option.bind_eq_some_iff.mp H
           obtain ⟨t297, A1590, H⟩ := H
           replace H : (if t297 < 0 then (none) else (if t297 = t295 then ((zl.f kj107 a0_0 l0_1).bind fun bt298 => ((zl.f kj107 a1_0 l1_1).bind fun bt302 => ((zg.f kj107 bt298.1 bt298.2 bt302.1 bt302.2).bind fun bt306 => ((zr.f kj107 bt306.1 bt306.2.1 t257 t258).bind fun t312 => (if t312 = true then (zc.j2 kj107 t295 (bt306.2.2 != t261) t273 t296) else (zc.j2 kj107 t295 true t273 t296)))))) else (none))) = some r := H
           have A159 := Aside0.mk A1590
           clear A1590
           by_cases c160 : t297 < 0
           ·rw [if_pos c160] at H
            exact absurd H (by simp)
           ·rw [if_neg c160] at H
            have c160b0 : decide (t297 < 0) = false := decide_eq_false c160
            clear c160
            by_cases c161 : t297 = t295
            ·rw [if_pos c161] at H
             have c161b0 : (t297 == t295) = true := beq_iff_eq.mpr c161
             have c161b1 : (t297 != t295) = false := bne_eq_false_iff_eq.mpr c161
             clear c161
             replace H := Option.bind_eq_some_iff.mp H
             obtain ⟨⟨t298, t299⟩, A1620, H⟩ := H
             replace H : ((zl.f kj107 a1_0 l1_1).bind fun bt302 => ((zg.f kj107 t298 t299 bt302.1 bt302.2).bind fun bt306 => ((zr.f kj107 bt306.1 bt306.2.1 t257 t258).bind fun t312 => (if t312 = true then (zc.j2 kj107 t295 (bt306.2.2 != t261) t273 t296) else (zc.j2 kj107 t295 true t273 t296))))) = some r := H
             have A162 := Aside0.mk A1620
             clear A1620
             replace H := Option.bind_eq_some_iff.mp H
             obtain ⟨⟨t302, t303⟩, A1630, H⟩ := H
             replace H : ((zg.f kj107 t298 t299 t302 t303).bind fun bt306 => ((zr.f kj107 bt306.1 bt306.2.1 t257 t258).bind fun t312 => (if t312 = true then (zc.j2 kj107 t295 (bt306.2.2 != t261) t273 t296) else (zc.j2 kj107 t295 true t273 t296)))) = some r := H
             have A163 := Aside0.mk A1630
             clear A1630
             replace H := Option.bind_eq_some_iff.mp H
             obtain ⟨⟨t306, t307, t310⟩, A1640, H⟩ := H
             replace H : ((zr.f kj107 t306 t307 t257 t258).bind fun t312 => (if t312 = true then (zc.j2 kj107 t295 (t310 != t261) t273 t296) else (zc.j2 kj107 t295 true t273 t296))) = some r := H
             have A164 := Aside0.mk A1640
             clear A1640
             have HC165 := Aside0.mk H
             clear H
             have hnb166 := NB278_245.out
             have hnc166 := NB245_278.out
             have hnb167 := NB278_246.out
             have hnc167 := NB246_278.out
             have hnb168 := NB278_262.out
             have hnc168 := NB262_278.out
             have hnb169 := NB278_267.out
             have hnc169 := NB267_278.out
             have hnb170 := NB278_272.out
             have hnc170 := NB272_278.out
             have hcz171_0 : wc.cell? ⟨gb278, 0, none⟩ = some (.int .i64 t273) := (za BK278.out 0).trans rfl
             have hcz171_1 : wc.cell? ⟨gb278, 1, none⟩ = some (.slice Ao72 t274.length co72) := (za BK278.out 1).trans rfl
             have hfz171_0 := zd BK278.out 0; have hfz171_1 := zd BK278.out 1
             try go_wp2_with (first | ((with_reducible refine zn (f := 16) rfl ?_); refine zN (some 85) rfl rfl Try.func16 (by kernel_rfl) rfl #[.agg #[.int .i64 t273, .slice Ao72 t274.length co72], .int .i64 1] rfl sqM ?_; (with_reducible refine (zz.calls kj107 t273 (fun k_ => some k_ = (.slice Ao72 t274.length co72 : Value).ownBlock) (.slice Ao72 t274.length co72) t274 1 t295 t296 w _ ?side1 ?side2 A158.out).mono ?_); (case side1 => repeat (first | (with_reducible first | exact HB.out | apply qu | apply zQ | apply zT | refine zV ?_ GE245.out | refine zV ?_ GE246.out | refine zV ?_ GE262.out | refine zV ?_ GE267.out | refine zV ?_ GE272.out | refine zV ?_ GE278.out) | exact HB.out)); (case side2 => exact Kd.vB rfl HO_279001.out); rintro e w172 ⟨rfl, hy0, hb, hkp⟩; refine ⟨_, rfl, ?_⟩; have n0_ := Aside0.mk (Kd.zo (ok' := fun k_ => some k_ ≠ (.slice Ao52 t291.length co52 : Value).ownBlock ∧ some k_ ≠ (.slice Ao62 t293.length co62 : Value).ownBlock ∧ some k_ ≠ (.slice Ao72 t274.length co72 : Value).ownBlock) (Kd.qT (HO_263001.out) hkp (fun k_ hk_ hs_ => by first | exact hk_.2.2 hs_ | (have e_ : some k_ = _ := hs_; simp only [e_, ne_eq, not_true_eq_false, and_false, false_and] at hk_))) (fun k_ hk_ => by first | exact ⟨hk_.1.1, hk_.1.2.1, hk_.1.2.2⟩ | (refine ⟨?_, ?_, ?_⟩ <;> intro e_ <;> simp only [e_, ne_eq, not_true_eq_false, and_false, false_and] at hk_))); have n1_ := Aside0.mk (Kd.zo (ok' := fun k_ => some k_ ≠ (.slice Ao42 t258.length co42 : Value).ownBlock ∧ some k_ ≠ (.slice Ao62 t293.length co62 : Value).ownBlock ∧ some k_ ≠ (.slice Ao72 t274.length co72 : Value).ownBlock) (Kd.qT (HO_268001.out) hkp (fun k_ hk_ hs_ => by first | exact hk_.2.2 hs_ | (have e_ : some k_ = _ := hs_; simp only [e_, ne_eq, not_true_eq_false, and_false, false_and] at hk_))) (fun k_ hk_ => by first | exact ⟨hk_.1.1, hk_.1.2.1, hk_.1.2.2⟩ | (refine ⟨?_, ?_, ?_⟩ <;> intro e_ <;> simp only [e_, ne_eq, not_true_eq_false, and_false, false_and] at hk_))); have n2_ := Aside0.mk (Kd.zo (ok' := fun k_ => some k_ ≠ (.slice Ao42 t258.length co42 : Value).ownBlock ∧ some k_ ≠ (.slice Ao52 t291.length co52 : Value).ownBlock ∧ some k_ ≠ (.slice Ao72 t274.length co72 : Value).ownBlock) (Kd.qT (HO_273001.out) hkp (fun k_ hk_ hs_ => by first | exact hk_.2.2 hs_ | (have e_ : some k_ = _ := hs_; simp only [e_, ne_eq, not_true_eq_false, and_false, false_and] at hk_))) (fun k_ hk_ => by first | exact ⟨hk_.1.1, hk_.1.2.1, hk_.1.2.2⟩ | (refine ⟨?_, ?_, ?_⟩ <;> intro e_ <;> simp only [e_, ne_eq, not_true_eq_false, and_false, false_and] at hk_))); have n3_ := Aside0.mk (Kd.Zd rfl hy0 (fun k_ e_ => HO_279001.out.1 k_ e_)); have n4_ := Aside0.mk (qq (sqK BK245.out) hkp (fun hs_ => (fun e_ => (Kd.jd HO_279001.out BK245.out (by decide)) e_) hs_)); have n5_ := Aside0.mk (qq (sqK BK246.out) hkp (fun hs_ => (fun e_ => (Kd.jd HO_279001.out BK246.out (by decide)) e_) hs_)); have n6_ := Aside0.mk (qq (sqK BK262.out) hkp (fun hs_ => (fun e_ => (Kd.jd HO_279001.out BK262.out (by decide)) e_) hs_)); have n7_ := Aside0.mk (qq (sqK BK267.out) hkp (fun hs_ => (fun e_ => (Kd.jd HO_279001.out BK267.out (by decide)) e_) hs_)); have n8_ := Aside0.mk (qq (sqK BK272.out) hkp (fun hs_ => (fun e_ => (Kd.jd HO_279001.out BK272.out (by decide)) e_) hs_)); have n9_ := Aside0.mk (qq (sqK BK278.out) hkp (fun hs_ => (fun e_ => (Kd.jd HO_279001.out BK278.out (by decide)) e_) hs_)); have n10_ := Aside0.mk (hb); clear HO_263001; clear HO_268001; clear HO_273001; clear HO_279001; clear BK245; clear BK246; clear BK262; clear BK267; clear BK272; clear BK278; clear HB; have HO_263001 := n0_; have HO_268001 := n1_; have HO_273001 := n2_; have HO_279001 := n3_; have BK245 := n4_; have BK246 := n5_; have BK262 := n6_; have BK267 := n7_; have BK272 := n8_; have BK278 := n9_; have HB := n10_; clear n0_ n1_ n2_ n3_ n4_ n5_ n6_ n7_ n8_ n9_ n10_; (try clear hb); (try clear hkp); (try clear hy0); have hcz173_0 : w172.cell? ⟨gb278, 0, none⟩ = some (.int .i64 t273) := (za BK278.out 0).trans rfl; have hcz173_1 : w172.cell? ⟨gb278, 1, none⟩ = some (.slice Ao72 t274.length co72) := (za BK278.out 1).trans rfl; have hfz173_0 := zd BK278.out 0; have hfz173_1 := zd BK278.out 1) | ((with_reducible refine zn (f := 17) rfl ?_); refine zN (some 88) rfl rfl Try.func17 (by kernel_rfl) rfl #[.agg #[.int .i64 t273, .slice Ao72 t296.length co72], .int .i64 1] rfl (by (try simp only [List.map_toArray, List.map_cons, List.map_nil]); first | done | (rw [show t296.length = t274.length from (Kd.zq HO_279001.out).1.symm] <;> rfl) | rfl | (simp only [List.length_drop, List.length_take]; rfl)) ?_; (with_reducible refine (qe.calls kj107 t273 _ _ t296 1 t297 _ ?side1 ?side2 A159.out).mono ?_); (case side1 => exact sqC (Kd.zq HO_279001.out).2.2); (case side2 => rw [show t296.length = t274.length from (Kd.zq HO_279001.out).1.symm]; exact (Kd.zq HO_279001.out).2.1); rintro e w174 ⟨rfl, hb⟩; refine ⟨_, rfl, ?_⟩; have n0_ := Aside0.mk (Kd.zu (sqR HO_263001.out) hb); have n1_ := Aside0.mk (Kd.zu (sqR HO_268001.out) hb); have n2_ := Aside0.mk (Kd.zu (sqR HO_273001.out) hb); have n3_ := Aside0.mk (Kd.zu (sqR HO_279001.out) hb); have n4_ := Aside0.mk (zb (g := gb245) (o := .cells #[.int .i64 a0_0, .slice A0_1 l0_1.length c0_1] 24 (0, 0)) (sqK BK245.out) hb); have n5_ := Aside0.mk (zb (g := gb246) (o := .cells #[.int .i64 a1_0, .slice A1_1 l1_1.length c1_1] 24 (0, 0)) (sqK BK246.out) hb); have n6_ := Aside0.mk (zb (g := gb262) (o := .cells #[.int .i64 t257, .slice Ao42 t258.length co42] 26 (0, 0)) (sqK BK262.out) hb); have n7_ := Aside0.mk (zb (g := gb267) (o := .cells #[.int .i64 t263, .slice Ao52 t291.length co52] 26 (0, 0)) (sqK BK267.out) hb); have n8_ := Aside0.mk (zb (g := gb272) (o := .cells #[.int .i64 t268, .slice Ao62 t293.length co62] 26 (0, 0)) (sqK BK272.out) hb); have n9_ := Aside0.mk (zb (g := gb278) (o := .cells #[.int .i64 t273, .slice Ao72 t274.length co72] 26 (0, 0)) (sqK BK278.out) hb); have n10_ := Aside0.mk (ze sqB hb); clear HO_263001; clear HO_268001; clear HO_273001; clear HO_279001; clear BK245; clear BK246; clear BK262; clear BK267; clear BK272; clear BK278; clear HB; have HO_263001 := n0_; have HO_268001 := n1_; have HO_273001 := n2_; have HO_279001 := n3_; have BK245 := n4_; have BK246 := n5_; have BK262 := n6_; have BK267 := n7_; have BK272 := n8_; have BK278 := n9_; have HB := n10_; clear n0_ n1_ n2_ n3_ n4_ n5_ n6_ n7_ n8_ n9_ n10_; (try clear hb); (try clear hb2); (try clear hk); (try clear hi)))
             have n0_ := Aside0.mk (Kd.qv HO_263001.out)
             have n1_ := Aside0.mk (Kd.qv HO_268001.out)
             have n2_ := Aside0.mk (Kd.qv HO_273001.out)
             have n3_ := Aside0.mk (Kd.qv HO_279001.out)
             have n4_ := Aside0.mk (zW BK245.out)
             have n5_ := Aside0.mk (zW BK246.out)
             have n6_ := Aside0.mk (zW BK262.out)
             have n7_ := Aside0.mk (zW BK267.out)
             have n8_ := Aside0.mk (zW BK272.out)
             have n9_ := Aside0.mk (zW BK278.out)
             have n10_ := Aside0.mk (zT HB.out)
             clear HO_263001 HO_268001 HO_273001 HO_279001 BK245 BK246 BK262 BK267 BK272 BK278 HB; have HO_263001 := n0_; have HO_268001 := n1_; have HO_273001 := n2_; have HO_279001 := n3_; have BK245 := n4_; have BK246 := n5_; have BK262 := n6_; have BK267 := n7_; have BK272 := n8_; have BK278 := n9_; have HB := n10_; clear n0_ n1_ n2_ n3_ n4_ n5_ n6_ n7_ n8_ n9_ n10_
             refine qU (n := 11) (S := fun w' => w'.cell? ⟨gb245, 0, none⟩ = some (.int .i64 a0_0) ∧ w'.cell? ⟨gb245, 1, none⟩ = some (.slice A0_1 l0_1.length c0_1) ∧ w'.cell? ⟨gb246, 0, none⟩ = some (.int .i64 a1_0) ∧ w'.cell? ⟨gb246, 1, none⟩ = some (.slice A1_1 l1_1.length c1_1)) (ds := []) #[false, false, false, false, false, false, false, false, false, false, false] (by kernel_rfl) rfl rfl ⟨(za BK245.out 0).trans rfl, (za BK245.out 1).trans rfl, (za BK246.out 0).trans rfl, (za BK246.out 1).trans rfl⟩ (fun hHeld => ?_); refine qx zc.JX zc.JC (fun HT_ HW_ => ?_)
             generalize w174.drew = w175 at HO_263001 HO_268001 HO_273001 HO_279001 BK245 BK246 BK262 BK267 BK272 BK278 HB hHeld ⊢
             refine qA (i := 0) (N := some 95) (v := ?_) (a' := ?_) #[true, false, false, false, false, false, false, false, false, false, false] rfl rfl (qi HT_.out HW_.out (by kernel_rfl)) (fun _ _ _ h => h) (Or.inl ⟨by rfl, ?_⟩) hHeld ?_ ?_
             rotate_left
             ·rintro w' ⟨s0, s1, s2, s3⟩; go_simp; with_reducible rfl
             rotate_left
             ·simp only [Act.put, List.setIfInBounds_toArray, List.set_cons_zero, List.set_cons_succ, zi, zj]; rfl
             refine qA (i := 2) (N := some 97) (v := ?_) (a' := ?_) #[true, false, true, false, false, false, false, false, false, false, false] rfl rfl (qi HT_.out HW_.out (by kernel_rfl)) (fun _ _ _ h => h) (Or.inl ⟨by rfl, ?_⟩) hHeld ?_ ?_
             rotate_left
             ·rintro w' ⟨s0, s1, s2, s3⟩; go_simp; with_reducible rfl
             rotate_left
             ·simp only [Act.put, List.setIfInBounds_toArray, List.set_cons_zero, List.set_cons_succ, zi, zj]; rfl
             refine Jw (σ := Value × Value × Value × Nat) 2 #[true, true, true, true, true, true, true, true, true, false, false] (fun s_ => [(96, .agg #[.int .i64 t298, s_.1]), (98, .agg #[.int .i64 t302, s_.2.1]), (99, .tuple #[.agg #[.int .i64 t306, s_.2.2.1], .bool t310]), (15, .pointer (some ⟨s_.2.2.2, 0, none⟩)), (94, .tuple #[.agg #[.int .i64 t306, s_.2.2.1], .bool t310]), (100, .agg #[.int .i64 t306, s_.2.2.1]), (101, .bool t310)]) (fun s_ w' => (w'.cell? ⟨gb245, 0, none⟩ = some (.int .i64 a0_0) ∧ w'.cell? ⟨gb245, 1, none⟩ = some (.slice A0_1 l0_1.length c0_1) ∧ w'.cell? ⟨gb246, 0, none⟩ = some (.int .i64 a1_0) ∧ w'.cell? ⟨gb246, 1, none⟩ = some (.slice A1_1 l1_1.length c1_1)) ∧ (Kd.R (Kd.int .i64) 3 w' w.heap.size (fun k_ => some k_ ≠ (s_.2.1 : Value).ownBlock ∧ some k_ ≠ (s_.2.2.1 : Value).ownBlock ∧ some k_ ≠ (.slice Ao42 t258.length co42 : Value).ownBlock ∧ some k_ ≠ (.slice Ao52 t291.length co52 : Value).ownBlock ∧ some k_ ≠ (.slice Ao62 t293.length co62 : Value).ownBlock ∧ some k_ ≠ (.slice Ao72 t274.length co72 : Value).ownBlock) s_.1 t299) ∧ (Kd.R (Kd.int .i64) 3 w' w.heap.size (fun k_ => some k_ ≠ (s_.1 : Value).ownBlock ∧ some k_ ≠ (s_.2.2.1 : Value).ownBlock ∧ some k_ ≠ (.slice Ao42 t258.length co42 : Value).ownBlock ∧ some k_ ≠ (.slice Ao52 t291.length co52 : Value).ownBlock ∧ some k_ ≠ (.slice Ao62 t293.length co62 : Value).ownBlock ∧ some k_ ≠ (.slice Ao72 t274.length co72 : Value).ownBlock) s_.2.1 t303) ∧ (Kd.R (Kd.int .i64) 3 w' w.heap.size (fun k_ => some k_ ≠ (s_.1 : Value).ownBlock ∧ some k_ ≠ (s_.2.1 : Value).ownBlock ∧ some k_ ≠ (.slice Ao42 t258.length co42 : Value).ownBlock ∧ some k_ ≠ (.slice Ao52 t291.length co52 : Value).ownBlock ∧ some k_ ≠ (.slice Ao62 t293.length co62 : Value).ownBlock ∧ some k_ ≠ (.slice Ao72 t274.length co72 : Value).ownBlock) s_.2.2.1 t307) ∧ (Kd.R (Kd.int .i64) 3 w' w.heap.size (fun k_ => some k_ ≠ (s_.1 : Value).ownBlock ∧ some k_ ≠ (s_.2.1 : Value).ownBlock ∧ some k_ ≠ (s_.2.2.1 : Value).ownBlock ∧ some k_ ≠ (.slice Ao52 t291.length co52 : Value).ownBlock ∧ some k_ ≠ (.slice Ao62 t293.length co62 : Value).ownBlock ∧ some k_ ≠ (.slice Ao72 t274.length co72 : Value).ownBlock) (.slice Ao42 t258.length co42) t258) ∧ (Kd.R (Kd.int .i64) 3 w' w.heap.size (fun k_ => some k_ ≠ (s_.1 : Value).ownBlock ∧ some k_ ≠ (s_.2.1 : Value).ownBlock ∧ some k_ ≠ (s_.2.2.1 : Value).ownBlock ∧ some k_ ≠ (.slice Ao42 t258.length co42 : Value).ownBlock ∧ some k_ ≠ (.slice Ao62 t293.length co62 : Value).ownBlock ∧ some k_ ≠ (.slice Ao72 t274.length co72 : Value).ownBlock) (.slice Ao52 t291.length co52) t291) ∧ (Kd.R (Kd.int .i64) 3 w' w.heap.size (fun k_ => some k_ ≠ (s_.1 : Value).ownBlock ∧ some k_ ≠ (s_.2.1 : Value).ownBlock ∧ some k_ ≠ (s_.2.2.1 : Value).ownBlock ∧ some k_ ≠ (.slice Ao42 t258.length co42 : Value).ownBlock ∧ some k_ ≠ (.slice Ao52 t291.length co52 : Value).ownBlock ∧ some k_ ≠ (.slice Ao72 t274.length co72 : Value).ownBlock) (.slice Ao62 t293.length co62) t293) ∧ (Kd.R (Kd.int .i64) 3 w' w.heap.size (fun k_ => some k_ ≠ (s_.1 : Value).ownBlock ∧ some k_ ≠ (s_.2.1 : Value).ownBlock ∧ some k_ ≠ (s_.2.2.1 : Value).ownBlock ∧ some k_ ≠ (.slice Ao42 t258.length co42 : Value).ownBlock ∧ some k_ ≠ (.slice Ao52 t291.length co52 : Value).ownBlock ∧ some k_ ≠ (.slice Ao62 t293.length co62 : Value).ownBlock) (.slice Ao72 t274.length co72) t296) ∧ (w'.heap[gb245]? = some (.cells #[.int .i64 a0_0, .slice A0_1 l0_1.length c0_1] 24 (0, 0))) ∧ (w'.heap[gb246]? = some (.cells #[.int .i64 a1_0, .slice A1_1 l1_1.length c1_1] 24 (0, 0))) ∧ (w'.heap[gb262]? = some (.cells #[.int .i64 t257, .slice Ao42 t258.length co42] 26 (0, 0))) ∧ (w'.heap[gb267]? = some (.cells #[.int .i64 t263, .slice Ao52 t291.length co52] 26 (0, 0))) ∧ (w'.heap[gb272]? = some (.cells #[.int .i64 t268, .slice Ao62 t293.length co62] 26 (0, 0))) ∧ (w'.heap[gb278]? = some (.cells #[.int .i64 t273, .slice Ao72 t274.length co72] 26 (0, 0))) ∧ (w'.heap[s_.2.2.2]? = some (.cells #[.int .i64 0, .slice none 0 0] 26 (0, 0))) ∧ (w.heap.size ≤ s_.2.2.2) ∧ (w.heap.size ≤ s_.2.2.2) ∧ (gb245 ≠ s_.2.2.2) ∧ (s_.2.2.2 ≠ gb245) ∧ (gb246 ≠ s_.2.2.2) ∧ (s_.2.2.2 ≠ gb246) ∧ (gb262 ≠ s_.2.2.2) ∧ (s_.2.2.2 ≠ gb262) ∧ (gb267 ≠ s_.2.2.2) ∧ (s_.2.2.2 ≠ gb267) ∧ (gb272 ≠ s_.2.2.2) ∧ (s_.2.2.2 ≠ gb272) ∧ (gb278 ≠ s_.2.2.2) ∧ (s_.2.2.2 ≠ gb278) ∧ (Below w.heap.size w w')) ?_ ?_
             rotate_left
             ·intro hCont
              refine Qq (i := 1) (j := 8) (Ni := some 96) (Nj := some 15) #[true, true, true, false, false, false, false, false, false, false, false] #[true, false, true, false, false, false, false, false, true, false, false] rfl rfl rfl rfl (vT HT_.out (by kernel_rfl)) (by decide) (by decide) (fun K hK => ?_) (fun K hK => ?_)
              ·skip
               refine qP Try.func13 (by kernel_rfl) rfl #[.agg #[.int .i64 a0_0, .slice A0_1 l0_1.length c0_1]] (by rfl) rfl rfl sqM ?_
               with_reducible refine (zl.calls kj107 a0_0 _ _ l0_1 t298 t299 _ ?side1 ?side2 A162.out).mono ?_
               (case side1 => exact sqC (Kd.zF HR0_1.out HB.out))
               (case side2 => exact HC0_1.out)
               rintro e w176 ⟨v300, rfl, ho0, hb⟩
               refine ⟨_, rfl, ?_⟩
               have n0_ := Aside0.mk (Kd.zw (sqR HO_263001.out) (Kd.zI ho0) hb)
               have n1_ := Aside0.mk (Kd.zw (sqR HO_268001.out) (Kd.zI ho0) hb)
               have n2_ := Aside0.mk (Kd.zw (sqR HO_273001.out) (Kd.zI ho0) hb)
               have n3_ := Aside0.mk (Kd.zw (sqR HO_279001.out) (Kd.zI ho0) hb)
               have n4_ := Aside0.mk (Kd.qd (Kd.zH (Kd.zH (Kd.zH (Kd.zH ho0 (Kd.qc (sqR HO_263001.out))) (Kd.qc (sqR HO_268001.out))) (Kd.qc (sqR HO_273001.out))) (Kd.qc (sqR HO_279001.out))) (zA sqB))
               have n5_ := Aside0.mk (zb (g := gb245) (o := .cells #[.int .i64 a0_0, .slice A0_1 l0_1.length c0_1] 24 (0, 0)) (sqK BK245.out) hb)
               have n6_ := Aside0.mk (zb (g := gb246) (o := .cells #[.int .i64 a1_0, .slice A1_1 l1_1.length c1_1] 24 (0, 0)) (sqK BK246.out) hb)
               have n7_ := Aside0.mk (zb (g := gb262) (o := .cells #[.int .i64 t257, .slice Ao42 t258.length co42] 26 (0, 0)) (sqK BK262.out) hb)
               have n8_ := Aside0.mk (zb (g := gb267) (o := .cells #[.int .i64 t263, .slice Ao52 t291.length co52] 26 (0, 0)) (sqK BK267.out) hb)
               have n9_ := Aside0.mk (zb (g := gb272) (o := .cells #[.int .i64 t268, .slice Ao62 t293.length co62] 26 (0, 0)) (sqK BK272.out) hb)
               have n10_ := Aside0.mk (zb (g := gb278) (o := .cells #[.int .i64 t273, .slice Ao72 t274.length co72] 26 (0, 0)) (sqK BK278.out) hb)
               have n11_ := Aside0.mk (ze sqB hb)
               clear HO_263001 HO_268001 HO_273001 HO_279001 BK245 BK246 BK262 BK267 BK272 BK278 HB; have HO_263001 := n0_; have HO_268001 := n1_; have HO_273001 := n2_; have HO_279001 := n3_; have HO301 := n4_; have BK245 := n5_; have BK246 := n6_; have BK262 := n7_; have BK267 := n8_; have BK272 := n9_; have BK278 := n10_; have HB := n11_; clear n0_ n1_ n2_ n3_ n4_ n5_ n6_ n7_ n8_ n9_ n10_ n11_; (try clear hb); (try clear hb2); (try clear hk); (try clear hi); (try clear ho0)
               refine hK.out _ _ ⟨(za BK245.out 0).trans rfl, (za BK245.out 1).trans rfl, (za BK246.out 0).trans rfl, (za BK246.out 1).trans rfl⟩ (fun hHeld => ?_)
               clear hK K
               refine qh (a' := ?_) ?_ ?_
               rotate_left
               ·show Act.put _ (some 96) _ = _; simp only [Act.put, List.setIfInBounds_toArray, List.set_cons_zero, List.set_cons_succ, zi, zj]; rfl
               refine Qq (i := 3) (j := 8) (Ni := some 98) (Nj := some 15) #[true, true, true, true, false, false, false, false, false, false, false] #[true, true, true, false, false, false, false, false, true, false, false] rfl rfl rfl rfl (vT HT_.out (by kernel_rfl)) (by decide) (by decide) (fun K hK => ?_) (fun K hK => ?_)
               ·skip
                refine qP Try.func13 (by kernel_rfl) rfl #[.agg #[.int .i64 a1_0, .slice A1_1 l1_1.length c1_1]] (by rfl) rfl rfl sqM ?_
                with_reducible refine (zl.calls kj107 a1_0 _ _ l1_1 t302 t303 _ ?side1 ?side2 A163.out).mono ?_
                (case side1 => exact sqC (Kd.zF HR1_1.out HB.out))
                (case side2 => exact HC1_1.out)
                rintro e w177 ⟨v304, rfl, ho0, hb⟩
                refine ⟨_, rfl, ?_⟩
                have n0_ := Aside0.mk (Kd.zw (sqR HO_263001.out) (Kd.zI ho0) hb)
                have n1_ := Aside0.mk (Kd.zw (sqR HO_268001.out) (Kd.zI ho0) hb)
                have n2_ := Aside0.mk (Kd.zw (sqR HO_273001.out) (Kd.zI ho0) hb)
                have n3_ := Aside0.mk (Kd.zw (sqR HO_279001.out) (Kd.zI ho0) hb)
                have n4_ := Aside0.mk (Kd.zw (sqR HO301.out) (Kd.zI ho0) hb)
                have n5_ := Aside0.mk (Kd.qd (Kd.zH (Kd.zH (Kd.zH (Kd.zH (Kd.zH ho0 (Kd.qc (sqR HO_263001.out))) (Kd.qc (sqR HO_268001.out))) (Kd.qc (sqR HO_273001.out))) (Kd.qc (sqR HO_279001.out))) (Kd.qc (sqR HO301.out))) (zA sqB))
                have n6_ := Aside0.mk (zb (g := gb245) (o := .cells #[.int .i64 a0_0, .slice A0_1 l0_1.length c0_1] 24 (0, 0)) (sqK BK245.out) hb)
                have n7_ := Aside0.mk (zb (g := gb246) (o := .cells #[.int .i64 a1_0, .slice A1_1 l1_1.length c1_1] 24 (0, 0)) (sqK BK246.out) hb)
                have n8_ := Aside0.mk (zb (g := gb262) (o := .cells #[.int .i64 t257, .slice Ao42 t258.length co42] 26 (0, 0)) (sqK BK262.out) hb)
                have n9_ := Aside0.mk (zb (g := gb267) (o := .cells #[.int .i64 t263, .slice Ao52 t291.length co52] 26 (0, 0)) (sqK BK267.out) hb)
                have n10_ := Aside0.mk (zb (g := gb272) (o := .cells #[.int .i64 t268, .slice Ao62 t293.length co62] 26 (0, 0)) (sqK BK272.out) hb)
                have n11_ := Aside0.mk (zb (g := gb278) (o := .cells #[.int .i64 t273, .slice Ao72 t274.length co72] 26 (0, 0)) (sqK BK278.out) hb)
                have n12_ := Aside0.mk (ze sqB hb)
                clear HO_263001 HO_268001 HO_273001 HO_279001 HO301 BK245 BK246 BK262 BK267 BK272 BK278 HB; have HO_263001 := n0_; have HO_268001 := n1_; have HO_273001 := n2_; have HO_279001 := n3_; have HO301 := n4_; have HO305 := n5_; have BK245 := n6_; have BK246 := n7_; have BK262 := n8_; have BK267 := n9_; have BK272 := n10_; have BK278 := n11_; have HB := n12_; clear n0_ n1_ n2_ n3_ n4_ n5_ n6_ n7_ n8_ n9_ n10_ n11_ n12_; (try clear hb); (try clear hb2); (try clear hk); (try clear hi); (try clear ho0)
                obtain ⟨Ao178, co178, eo178⟩ := Kd.zX HO301.out
                (first | subst eo178 | (injection eo178 with f1_ f2_ f3_; have f4_ := f1_.symm; have f5_ := f3_.symm; clear f1_ f2_ f3_; subst f4_; subst f5_))
                obtain ⟨Ao179, co179, eo179⟩ := Kd.zX HO305.out
                (first | subst eo179 | (injection eo179 with f1_ f2_ f3_; have f4_ := f1_.symm; have f5_ := f3_.symm; clear f1_ f2_ f3_; subst f4_; subst f5_))
                refine hK.out _ _ ⟨(za BK245.out 0).trans rfl, (za BK245.out 1).trans rfl, (za BK246.out 0).trans rfl, (za BK246.out 1).trans rfl⟩ (fun hHeld => ?_)
                clear hK K
                refine qh (a' := ?_) ?_ ?_
                rotate_left
                ·show Act.put _ (some 98) _ = _; simp only [Act.put, List.setIfInBounds_toArray, List.set_cons_zero, List.set_cons_succ, zi, zj]; rfl
                refine Qq (i := 4) (j := 8) (Ni := some 99) (Nj := some 15) #[true, true, true, true, true, false, false, false, false, false, false] #[true, true, true, true, false, false, false, false, true, false, false] rfl rfl rfl rfl (vT HT_.out (by kernel_rfl)) (by decide) (by decide) (fun K hK => ?_) (fun K hK => ?_)
                ·skip
                 refine qP Try.func27 (by kernel_rfl) rfl #[.agg #[.int .i64 t298, .slice Ao178 t299.length co178], .agg #[.int .i64 t302, .slice Ao179 t303.length co179]] (by rfl) rfl rfl sqM ?_
                 with_reducible refine (zg.calls kj107 t298 _ _ t299 t302 _ _ t303 t306 t307 t310 _ ?side1 ?side2 ?side3 ?side4 A164.out).mono ?_
                 (case side1 => exact sqC (Kd.zq HO301.out).2.2)
                 (case side2 => exact (Kd.zq HO301.out).2.1)
                 (case side3 => exact sqC (Kd.zq HO305.out).2.2)
                 (case side4 => exact (Kd.zq HO305.out).2.1)
                 rintro e w180 ⟨v308, rfl, ho0, hb⟩
                 refine ⟨_, rfl, ?_⟩
                 have n0_ := Aside0.mk (Kd.zw (sqR HO_263001.out) (Kd.zI ho0) hb)
                 have n1_ := Aside0.mk (Kd.zw (sqR HO_268001.out) (Kd.zI ho0) hb)
                 have n2_ := Aside0.mk (Kd.zw (sqR HO_273001.out) (Kd.zI ho0) hb)
                 have n3_ := Aside0.mk (Kd.zw (sqR HO_279001.out) (Kd.zI ho0) hb)
                 have n4_ := Aside0.mk (Kd.zw (sqR HO301.out) (Kd.zI ho0) hb)
                 have n5_ := Aside0.mk (Kd.zw (sqR HO305.out) (Kd.zI ho0) hb)
                 have n6_ := Aside0.mk (Kd.qd (Kd.zH (Kd.zH (Kd.zH (Kd.zH (Kd.zH (Kd.zH ho0 (Kd.qc (sqR HO_263001.out))) (Kd.qc (sqR HO_268001.out))) (Kd.qc (sqR HO_273001.out))) (Kd.qc (sqR HO_279001.out))) (Kd.qc (sqR HO301.out))) (Kd.qc (sqR HO305.out))) (zA sqB))
                 have n7_ := Aside0.mk (zb (g := gb245) (o := .cells #[.int .i64 a0_0, .slice A0_1 l0_1.length c0_1] 24 (0, 0)) (sqK BK245.out) hb)
                 have n8_ := Aside0.mk (zb (g := gb246) (o := .cells #[.int .i64 a1_0, .slice A1_1 l1_1.length c1_1] 24 (0, 0)) (sqK BK246.out) hb)
                 have n9_ := Aside0.mk (zb (g := gb262) (o := .cells #[.int .i64 t257, .slice Ao42 t258.length co42] 26 (0, 0)) (sqK BK262.out) hb)
                 have n10_ := Aside0.mk (zb (g := gb267) (o := .cells #[.int .i64 t263, .slice Ao52 t291.length co52] 26 (0, 0)) (sqK BK267.out) hb)
                 have n11_ := Aside0.mk (zb (g := gb272) (o := .cells #[.int .i64 t268, .slice Ao62 t293.length co62] 26 (0, 0)) (sqK BK272.out) hb)
                 have n12_ := Aside0.mk (zb (g := gb278) (o := .cells #[.int .i64 t273, .slice Ao72 t274.length co72] 26 (0, 0)) (sqK BK278.out) hb)
                 have n13_ := Aside0.mk (ze sqB hb)
                 clear HO_263001 HO_268001 HO_273001 HO_279001 HO301 HO305 BK245 BK246 BK262 BK267 BK272 BK278 HB; have HO_263001 := n0_; have HO_268001 := n1_; have HO_273001 := n2_; have HO_279001 := n3_; have HO301 := n4_; have HO305 := n5_; have HO309 := n6_; have BK245 := n7_; have BK246 := n8_; have BK262 := n9_; have BK267 := n10_; have BK272 := n11_; have BK278 := n12_; have HB := n13_; clear n0_ n1_ n2_ n3_ n4_ n5_ n6_ n7_ n8_ n9_ n10_ n11_ n12_ n13_; (try clear hb); (try clear hb2); (try clear hk); (try clear hi); (try clear ho0)
                 refine hK.out _ _ ⟨(za BK245.out 0).trans rfl, (za BK245.out 1).trans rfl, (za BK246.out 0).trans rfl, (za BK246.out 1).trans rfl⟩ (fun hHeld => ?_)
                 clear hK K
                 refine qh (a' := ?_) ?_ ?_
                 rotate_left
                 ·show Act.put _ (some 99) _ = _; simp only [Act.put, List.setIfInBounds_toArray, List.set_cons_zero, List.set_cons_succ, zi, zj]; rfl
                 refine zx (i := 5) (N := some 94) (v := ?_) (a' := ?_) #[true, true, true, true, true, true, false, false, false, false, false] rfl rfl (zp HT_.out (by kernel_rfl)) (fun _ _ _ h => h) (Or.inl ⟨by rfl, ?_⟩) ?_ ?_
                 rotate_left
                 ·intro w'; go_simp; with_reducible rfl
                 rotate_left
                 ·simp only [Act.put, List.setIfInBounds_toArray, List.set_cons_zero, List.set_cons_succ, zi, zj]; rfl
                 refine zx (i := 6) (N := some 100) (v := ?_) (a' := ?_) #[true, true, true, true, true, true, true, false, false, false, false] rfl rfl (zp HT_.out (by kernel_rfl)) (fun _ _ _ h => h) (Or.inl ⟨by rfl, ?_⟩) ?_ ?_
                 rotate_left
                 ·intro w'; go_simp; with_reducible rfl
                 rotate_left
                 ·simp only [Act.put, List.setIfInBounds_toArray, List.set_cons_zero, List.set_cons_succ, zi, zj]; rfl
                 refine zx (i := 7) (N := some 101) (v := ?_) (a' := ?_) #[true, true, true, true, true, true, true, true, false, false, false] rfl rfl (zp HT_.out (by kernel_rfl)) (fun _ _ _ h => h) (Or.inl ⟨by rfl, ?_⟩) ?_ ?_
                 rotate_left
                 ·intro w'; go_simp; with_reducible rfl
                 rotate_left
                 ·simp only [Act.put, List.setIfInBounds_toArray, List.set_cons_zero, List.set_cons_succ, zi, zj]; rfl
                 refine qW (i := 8) (N := some 15) #[true, true, true, true, true, true, true, true, true, false, false] rfl rfl (qp HT_.out (by kernel_rfl)) (by decide) (fun K hK => ?_)
                 refine jf ?hg (N := 15) ?hd (cs := #[.int .i64 0, .slice none 0 0]) (t := 26) ?hr ?_; (case hd => rfl); (case hg => rfl); (case hr => exact sqG)
                 intro gb311 hg w181 hbox hb
                 have n0_ := Aside0.mk (Kd.zu (sqR HO_263001.out) hb)
                 have n1_ := Aside0.mk (Kd.zu (sqR HO_268001.out) hb)
                 have n2_ := Aside0.mk (Kd.zu (sqR HO_273001.out) hb)
                 have n3_ := Aside0.mk (Kd.zu (sqR HO_279001.out) hb)
                 have n4_ := Aside0.mk (Kd.zu (sqR HO301.out) hb)
                 have n5_ := Aside0.mk (Kd.zu (sqR HO305.out) hb)
                 have n6_ := Aside0.mk (Kd.zu (sqR HO309.out) hb)
                 have n7_ := Aside0.mk (zb (g := gb245) (o := .cells #[.int .i64 a0_0, .slice A0_1 l0_1.length c0_1] 24 (0, 0)) (sqK BK245.out) hb)
                 have n8_ := Aside0.mk (zb (g := gb246) (o := .cells #[.int .i64 a1_0, .slice A1_1 l1_1.length c1_1] 24 (0, 0)) (sqK BK246.out) hb)
                 have n9_ := Aside0.mk (zb (g := gb262) (o := .cells #[.int .i64 t257, .slice Ao42 t258.length co42] 26 (0, 0)) (sqK BK262.out) hb)
                 have n10_ := Aside0.mk (zb (g := gb267) (o := .cells #[.int .i64 t263, .slice Ao52 t291.length co52] 26 (0, 0)) (sqK BK267.out) hb)
                 have n11_ := Aside0.mk (zb (g := gb272) (o := .cells #[.int .i64 t268, .slice Ao62 t293.length co62] 26 (0, 0)) (sqK BK272.out) hb)
                 have n12_ := Aside0.mk (zb (g := gb278) (o := .cells #[.int .i64 t273, .slice Ao72 t274.length co72] 26 (0, 0)) (sqK BK278.out) hb)
                 have n13_ := Aside0.mk (ze sqB hb)
                 have n14_ := Aside0.mk (hbox)
                 have n15_ := Aside0.mk ((sqS hg : w.heap.size ≤ gb311))
                 have n16_ := Aside0.mk ((sqS hg : w.heap.size ≤ gb311))
                 have n17_ := Aside0.mk ((by rw [hg]; exact Nat.ne_of_lt (zt (g := gb245) (o := .cells #[.int .i64 a0_0, .slice A0_1 l0_1.length c0_1] 24 (0, 0)) (sqK BK245.out)) : gb245 ≠ gb311))
                 have n18_ := Aside0.mk ((by rw [hg]; exact Nat.ne_of_gt (zt (g := gb245) (o := .cells #[.int .i64 a0_0, .slice A0_1 l0_1.length c0_1] 24 (0, 0)) (sqK BK245.out)) : gb311 ≠ gb245))
                 have n19_ := Aside0.mk ((by rw [hg]; exact Nat.ne_of_lt (zt (g := gb246) (o := .cells #[.int .i64 a1_0, .slice A1_1 l1_1.length c1_1] 24 (0, 0)) (sqK BK246.out)) : gb246 ≠ gb311))
                 have n20_ := Aside0.mk ((by rw [hg]; exact Nat.ne_of_gt (zt (g := gb246) (o := .cells #[.int .i64 a1_0, .slice A1_1 l1_1.length c1_1] 24 (0, 0)) (sqK BK246.out)) : gb311 ≠ gb246))
                 have n21_ := Aside0.mk ((by rw [hg]; exact Nat.ne_of_lt (zt (g := gb262) (o := .cells #[.int .i64 t257, .slice Ao42 t258.length co42] 26 (0, 0)) (sqK BK262.out)) : gb262 ≠ gb311))
                 have n22_ := Aside0.mk ((by rw [hg]; exact Nat.ne_of_gt (zt (g := gb262) (o := .cells #[.int .i64 t257, .slice Ao42 t258.length co42] 26 (0, 0)) (sqK BK262.out)) : gb311 ≠ gb262))
                 have n23_ := Aside0.mk ((by rw [hg]; exact Nat.ne_of_lt (zt (g := gb267) (o := .cells #[.int .i64 t263, .slice Ao52 t291.length co52] 26 (0, 0)) (sqK BK267.out)) : gb267 ≠ gb311))
                 have n24_ := Aside0.mk ((by rw [hg]; exact Nat.ne_of_gt (zt (g := gb267) (o := .cells #[.int .i64 t263, .slice Ao52 t291.length co52] 26 (0, 0)) (sqK BK267.out)) : gb311 ≠ gb267))
                 have n25_ := Aside0.mk ((by rw [hg]; exact Nat.ne_of_lt (zt (g := gb272) (o := .cells #[.int .i64 t268, .slice Ao62 t293.length co62] 26 (0, 0)) (sqK BK272.out)) : gb272 ≠ gb311))
                 have n26_ := Aside0.mk ((by rw [hg]; exact Nat.ne_of_gt (zt (g := gb272) (o := .cells #[.int .i64 t268, .slice Ao62 t293.length co62] 26 (0, 0)) (sqK BK272.out)) : gb311 ≠ gb272))
                 have n27_ := Aside0.mk ((by rw [hg]; exact Nat.ne_of_lt (zt (g := gb278) (o := .cells #[.int .i64 t273, .slice Ao72 t274.length co72] 26 (0, 0)) (sqK BK278.out)) : gb278 ≠ gb311))
                 have n28_ := Aside0.mk ((by rw [hg]; exact Nat.ne_of_gt (zt (g := gb278) (o := .cells #[.int .i64 t273, .slice Ao72 t274.length co72] 26 (0, 0)) (sqK BK278.out)) : gb311 ≠ gb278))
                 clear HO_263001 HO_268001 HO_273001 HO_279001 HO301 HO305 HO309 BK245 BK246 BK262 BK267 BK272 BK278 HB; have HO_263001 := n0_; have HO_268001 := n1_; have HO_273001 := n2_; have HO_279001 := n3_; have HO301 := n4_; have HO305 := n5_; have HO309 := n6_; have BK245 := n7_; have BK246 := n8_; have BK262 := n9_; have BK267 := n10_; have BK272 := n11_; have BK278 := n12_; have HB := n13_; have BK311 := n14_; have GW311 := n15_; have GE311 := n16_; have NB245_311 := n17_; have NB311_245 := n18_; have NB246_311 := n19_; have NB311_246 := n20_; have NB262_311 := n21_; have NB311_262 := n22_; have NB267_311 := n23_; have NB311_267 := n24_; have NB272_311 := n25_; have NB311_272 := n26_; have NB278_311 := n27_; have NB311_278 := n28_; clear n0_ n1_ n2_ n3_ n4_ n5_ n6_ n7_ n8_ n9_ n10_ n11_ n12_ n13_ n14_ n15_ n16_ n17_ n18_ n19_ n20_ n21_ n22_ n23_ n24_ n25_ n26_ n27_ n28_ hb hbox hg
                 refine hK.out _ _ ⟨(za BK245.out 0).trans rfl, (za BK245.out 1).trans rfl, (za BK246.out 0).trans rfl, (za BK246.out 1).trans rfl⟩ (fun hHeld => ?_)
                 clear hK K
                 refine qh (a' := ?_) ?_ ?_
                 rotate_left
                 ·show Act.put _ (some 15) _ = _; simp only [Act.put, List.setIfInBounds_toArray, List.set_cons_zero, List.set_cons_succ, zi, zj]; rfl
                 exact qh (by simp only [ja, Act.put, List.setIfInBounds_toArray, List.set_cons_zero, List.set_cons_succ]) (hCont (.slice Ao178 t299.length co178, .slice Ao179 t303.length co179, v308, gb311) _ ⟨hHeld, (by refine sqR ?_; exact Kd.zo HO301.out (fun _ hk => ⟨hk.1.2, ⟨hk.2, ⟨hk.1.1.1.1.1.2, ⟨hk.1.1.1.1.2, ⟨hk.1.1.1.2, hk.1.1.2⟩⟩⟩⟩⟩)), (by refine sqR ?_; exact Kd.zo HO305.out (fun _ hk => ⟨hk.1.2, ⟨hk.2, ⟨hk.1.1.1.1.1.2, ⟨hk.1.1.1.1.2, ⟨hk.1.1.1.2, hk.1.1.2⟩⟩⟩⟩⟩)), (by refine sqR ?_; exact Kd.zo HO309.out (fun _ hk => ⟨hk.1.2, ⟨hk.2, ⟨hk.1.1.1.1.1.2, ⟨hk.1.1.1.1.2, ⟨hk.1.1.1.2, hk.1.1.2⟩⟩⟩⟩⟩)), (by refine sqR ?_; exact Kd.zo HO_263001.out (fun _ hk => ⟨hk.1.1.2, ⟨hk.1.2, ⟨hk.2, ⟨hk.1.1.1.1, ⟨hk.1.1.1.2.1, hk.1.1.1.2.2⟩⟩⟩⟩⟩)), (by refine sqR ?_; exact Kd.zo HO_268001.out (fun _ hk => ⟨hk.1.1.2, ⟨hk.1.2, ⟨hk.2, ⟨hk.1.1.1.1, ⟨hk.1.1.1.2.1, hk.1.1.1.2.2⟩⟩⟩⟩⟩)), (by refine sqR ?_; exact Kd.zo HO_273001.out (fun _ hk => ⟨hk.1.1.2, ⟨hk.1.2, ⟨hk.2, ⟨hk.1.1.1.1, ⟨hk.1.1.1.2.1, hk.1.1.1.2.2⟩⟩⟩⟩⟩)), (by refine sqR ?_; exact Kd.zo HO_279001.out (fun _ hk => ⟨hk.1.1.2, ⟨hk.1.2, ⟨hk.2, ⟨hk.1.1.1.1, ⟨hk.1.1.1.2.1, hk.1.1.1.2.2⟩⟩⟩⟩⟩)), (sqK BK245.out), (sqK BK246.out), (sqK BK262.out), (sqK BK267.out), (sqK BK272.out), (sqK BK278.out), (sqK BK311.out), GW311.out, GE311.out, NB245_311.out, NB311_245.out, NB246_311.out, NB311_246.out, NB262_311.out, NB311_262.out, NB267_311.out, NB311_267.out, NB272_311.out, NB311_272.out, NB278_311.out, NB311_278.out, sqB⟩)
                ·skip
                 refine jf ?hg (N := 15) ?hd (cs := #[.int .i64 0, .slice none 0 0]) (t := 26) ?hr ?_; (case hd => rfl); (case hg => rfl); (case hr => exact sqG)
                 intro gb311 hg w178 hbox hb
                 have n0_ := Aside0.mk (Kd.zu (sqR HO_263001.out) hb)
                 have n1_ := Aside0.mk (Kd.zu (sqR HO_268001.out) hb)
                 have n2_ := Aside0.mk (Kd.zu (sqR HO_273001.out) hb)
                 have n3_ := Aside0.mk (Kd.zu (sqR HO_279001.out) hb)
                 have n4_ := Aside0.mk (Kd.zu (sqR HO301.out) hb)
                 have n5_ := Aside0.mk (Kd.zu (sqR HO305.out) hb)
                 have n6_ := Aside0.mk (zb (g := gb245) (o := .cells #[.int .i64 a0_0, .slice A0_1 l0_1.length c0_1] 24 (0, 0)) (sqK BK245.out) hb)
                 have n7_ := Aside0.mk (zb (g := gb246) (o := .cells #[.int .i64 a1_0, .slice A1_1 l1_1.length c1_1] 24 (0, 0)) (sqK BK246.out) hb)
                 have n8_ := Aside0.mk (zb (g := gb262) (o := .cells #[.int .i64 t257, .slice Ao42 t258.length co42] 26 (0, 0)) (sqK BK262.out) hb)
                 have n9_ := Aside0.mk (zb (g := gb267) (o := .cells #[.int .i64 t263, .slice Ao52 t291.length co52] 26 (0, 0)) (sqK BK267.out) hb)
                 have n10_ := Aside0.mk (zb (g := gb272) (o := .cells #[.int .i64 t268, .slice Ao62 t293.length co62] 26 (0, 0)) (sqK BK272.out) hb)
                 have n11_ := Aside0.mk (zb (g := gb278) (o := .cells #[.int .i64 t273, .slice Ao72 t274.length co72] 26 (0, 0)) (sqK BK278.out) hb)
                 have n12_ := Aside0.mk (ze sqB hb)
                 have n13_ := Aside0.mk (hbox)
                 have n14_ := Aside0.mk ((sqS hg : w.heap.size ≤ gb311))
                 have n15_ := Aside0.mk ((sqS hg : w.heap.size ≤ gb311))
                 have n16_ := Aside0.mk ((by rw [hg]; exact Nat.ne_of_lt (zt (g := gb245) (o := .cells #[.int .i64 a0_0, .slice A0_1 l0_1.length c0_1] 24 (0, 0)) (sqK BK245.out)) : gb245 ≠ gb311))
                 have n17_ := Aside0.mk ((by rw [hg]; exact Nat.ne_of_gt (zt (g := gb245) (o := .cells #[.int .i64 a0_0, .slice A0_1 l0_1.length c0_1] 24 (0, 0)) (sqK BK245.out)) : gb311 ≠ gb245))
                 have n18_ := Aside0.mk ((by rw [hg]; exact Nat.ne_of_lt (zt (g := gb246) (o := .cells #[.int .i64 a1_0, .slice A1_1 l1_1.length c1_1] 24 (0, 0)) (sqK BK246.out)) : gb246 ≠ gb311))
                 have n19_ := Aside0.mk ((by rw [hg]; exact Nat.ne_of_gt (zt (g := gb246) (o := .cells #[.int .i64 a1_0, .slice A1_1 l1_1.length c1_1] 24 (0, 0)) (sqK BK246.out)) : gb311 ≠ gb246))
                 have n20_ := Aside0.mk ((by rw [hg]; exact Nat.ne_of_lt (zt (g := gb262) (o := .cells #[.int .i64 t257, .slice Ao42 t258.length co42] 26 (0, 0)) (sqK BK262.out)) : gb262 ≠ gb311))
                 have n21_ := Aside0.mk ((by rw [hg]; exact Nat.ne_of_gt (zt (g := gb262) (o := .cells #[.int .i64 t257, .slice Ao42 t258.length co42] 26 (0, 0)) (sqK BK262.out)) : gb311 ≠ gb262))
                 have n22_ := Aside0.mk ((by rw [hg]; exact Nat.ne_of_lt (zt (g := gb267) (o := .cells #[.int .i64 t263, .slice Ao52 t291.length co52] 26 (0, 0)) (sqK BK267.out)) : gb267 ≠ gb311))
                 have n23_ := Aside0.mk ((by rw [hg]; exact Nat.ne_of_gt (zt (g := gb267) (o := .cells #[.int .i64 t263, .slice Ao52 t291.length co52] 26 (0, 0)) (sqK BK267.out)) : gb311 ≠ gb267))
                 have n24_ := Aside0.mk ((by rw [hg]; exact Nat.ne_of_lt (zt (g := gb272) (o := .cells #[.int .i64 t268, .slice Ao62 t293.length co62] 26 (0, 0)) (sqK BK272.out)) : gb272 ≠ gb311))
                 have n25_ := Aside0.mk ((by rw [hg]; exact Nat.ne_of_gt (zt (g := gb272) (o := .cells #[.int .i64 t268, .slice Ao62 t293.length co62] 26 (0, 0)) (sqK BK272.out)) : gb311 ≠ gb272))
                 have n26_ := Aside0.mk ((by rw [hg]; exact Nat.ne_of_lt (zt (g := gb278) (o := .cells #[.int .i64 t273, .slice Ao72 t274.length co72] 26 (0, 0)) (sqK BK278.out)) : gb278 ≠ gb311))
                 have n27_ := Aside0.mk ((by rw [hg]; exact Nat.ne_of_gt (zt (g := gb278) (o := .cells #[.int .i64 t273, .slice Ao72 t274.length co72] 26 (0, 0)) (sqK BK278.out)) : gb311 ≠ gb278))
                 clear HO_263001 HO_268001 HO_273001 HO_279001 HO301 HO305 BK245 BK246 BK262 BK267 BK272 BK278 HB; have HO_263001 := n0_; have HO_268001 := n1_; have HO_273001 := n2_; have HO_279001 := n3_; have HO301 := n4_; have HO305 := n5_; have BK245 := n6_; have BK246 := n7_; have BK262 := n8_; have BK267 := n9_; have BK272 := n10_; have BK278 := n11_; have HB := n12_; have BK311 := n13_; have GW311 := n14_; have GE311 := n15_; have NB245_311 := n16_; have NB311_245 := n17_; have NB246_311 := n18_; have NB311_246 := n19_; have NB262_311 := n20_; have NB311_262 := n21_; have NB267_311 := n22_; have NB311_267 := n23_; have NB272_311 := n24_; have NB311_272 := n25_; have NB278_311 := n26_; have NB311_278 := n27_; clear n0_ n1_ n2_ n3_ n4_ n5_ n6_ n7_ n8_ n9_ n10_ n11_ n12_ n13_ n14_ n15_ n16_ n17_ n18_ n19_ n20_ n21_ n22_ n23_ n24_ n25_ n26_ n27_ hb hbox hg
                 obtain ⟨Ao179, co179, eo179⟩ := Kd.zX HO301.out
                 (first | subst eo179 | (injection eo179 with f1_ f2_ f3_; have f4_ := f1_.symm; have f5_ := f3_.symm; clear f1_ f2_ f3_; subst f4_; subst f5_))
                 obtain ⟨Ao180, co180, eo180⟩ := Kd.zX HO305.out
                 (first | subst eo180 | (injection eo180 with f1_ f2_ f3_; have f4_ := f1_.symm; have f5_ := f3_.symm; clear f1_ f2_ f3_; subst f4_; subst f5_))
                 refine hK.out _ _ ⟨(za BK245.out 0).trans rfl, (za BK245.out 1).trans rfl, (za BK246.out 0).trans rfl, (za BK246.out 1).trans rfl⟩ (fun hHeld => ?_)
                 clear hK K
                 refine qh (a' := ?_) ?_ ?_
                 rotate_left
                 ·show Act.put _ (some 15) _ = _; simp only [Act.put, List.setIfInBounds_toArray, List.set_cons_zero, List.set_cons_succ, zi, zj]; rfl
                 refine qW (i := 4) (N := some 99) #[true, true, true, true, true, false, false, false, true, false, false] rfl rfl (qp HT_.out (by kernel_rfl)) (by decide) (fun K hK => ?_)
                 refine qP Try.func27 (by kernel_rfl) rfl #[.agg #[.int .i64 t298, .slice Ao179 t299.length co179], .agg #[.int .i64 t302, .slice Ao180 t303.length co180]] (by rfl) rfl rfl sqM ?_
                 with_reducible refine (zg.calls kj107 t298 _ _ t299 t302 _ _ t303 t306 t307 t310 _ ?side1 ?side2 ?side3 ?side4 A164.out).mono ?_
                 (case side1 => exact sqC (Kd.zq HO301.out).2.2)
                 (case side2 => exact (Kd.zq HO301.out).2.1)
                 (case side3 => exact sqC (Kd.zq HO305.out).2.2)
                 (case side4 => exact (Kd.zq HO305.out).2.1)
                 rintro e w181 ⟨v308, rfl, ho0, hb⟩
                 refine ⟨_, rfl, ?_⟩
                 have n0_ := Aside0.mk (Kd.zw (sqR HO_263001.out) (Kd.zI ho0) hb)
                 have n1_ := Aside0.mk (Kd.zw (sqR HO_268001.out) (Kd.zI ho0) hb)
                 have n2_ := Aside0.mk (Kd.zw (sqR HO_273001.out) (Kd.zI ho0) hb)
                 have n3_ := Aside0.mk (Kd.zw (sqR HO_279001.out) (Kd.zI ho0) hb)
                 have n4_ := Aside0.mk (Kd.zw (sqR HO301.out) (Kd.zI ho0) hb)
                 have n5_ := Aside0.mk (Kd.zw (sqR HO305.out) (Kd.zI ho0) hb)
                 have n6_ := Aside0.mk (Kd.qd (Kd.zH (Kd.zH (Kd.zH (Kd.zH (Kd.zH (Kd.zH ho0 (Kd.qc (sqR HO_263001.out))) (Kd.qc (sqR HO_268001.out))) (Kd.qc (sqR HO_273001.out))) (Kd.qc (sqR HO_279001.out))) (Kd.qc (sqR HO301.out))) (Kd.qc (sqR HO305.out))) (zA sqB))
                 have n7_ := Aside0.mk (zb (g := gb245) (o := .cells #[.int .i64 a0_0, .slice A0_1 l0_1.length c0_1] 24 (0, 0)) (sqK BK245.out) hb)
                 have n8_ := Aside0.mk (zb (g := gb246) (o := .cells #[.int .i64 a1_0, .slice A1_1 l1_1.length c1_1] 24 (0, 0)) (sqK BK246.out) hb)
                 have n9_ := Aside0.mk (zb (g := gb262) (o := .cells #[.int .i64 t257, .slice Ao42 t258.length co42] 26 (0, 0)) (sqK BK262.out) hb)
                 have n10_ := Aside0.mk (zb (g := gb267) (o := .cells #[.int .i64 t263, .slice Ao52 t291.length co52] 26 (0, 0)) (sqK BK267.out) hb)
                 have n11_ := Aside0.mk (zb (g := gb272) (o := .cells #[.int .i64 t268, .slice Ao62 t293.length co62] 26 (0, 0)) (sqK BK272.out) hb)
                 have n12_ := Aside0.mk (zb (g := gb278) (o := .cells #[.int .i64 t273, .slice Ao72 t274.length co72] 26 (0, 0)) (sqK BK278.out) hb)
                 have n13_ := Aside0.mk (zb (g := gb311) (o := .cells #[.int .i64 0, .slice none 0 0] 26 (0, 0)) (sqK BK311.out) hb)
                 have n14_ := Aside0.mk (ze sqB hb)
                 clear HO_263001 HO_268001 HO_273001 HO_279001 HO301 HO305 BK245 BK246 BK262 BK267 BK272 BK278 BK311 HB; have HO_263001 := n0_; have HO_268001 := n1_; have HO_273001 := n2_; have HO_279001 := n3_; have HO301 := n4_; have HO305 := n5_; have HO309 := n6_; have BK245 := n7_; have BK246 := n8_; have BK262 := n9_; have BK267 := n10_; have BK272 := n11_; have BK278 := n12_; have BK311 := n13_; have HB := n14_; clear n0_ n1_ n2_ n3_ n4_ n5_ n6_ n7_ n8_ n9_ n10_ n11_ n12_ n13_ n14_; (try clear hb); (try clear hb2); (try clear hk); (try clear hi); (try clear ho0)
                 refine hK.out _ _ ⟨(za BK245.out 0).trans rfl, (za BK245.out 1).trans rfl, (za BK246.out 0).trans rfl, (za BK246.out 1).trans rfl⟩ (fun hHeld => ?_)
                 clear hK K
                 refine qh (a' := ?_) ?_ ?_
                 rotate_left
                 ·show Act.put _ (some 99) _ = _; simp only [Act.put, List.setIfInBounds_toArray, List.set_cons_zero, List.set_cons_succ, zi, zj]; rfl
                 refine zx (i := 5) (N := some 94) (v := ?_) (a' := ?_) #[true, true, true, true, true, true, false, false, true, false, false] rfl rfl (zp HT_.out (by kernel_rfl)) (fun _ _ _ h => h) (Or.inl ⟨by rfl, ?_⟩) ?_ ?_
                 rotate_left
                 ·intro w'; go_simp; with_reducible rfl
                 rotate_left
                 ·simp only [Act.put, List.setIfInBounds_toArray, List.set_cons_zero, List.set_cons_succ, zi, zj]; rfl
                 refine zx (i := 6) (N := some 100) (v := ?_) (a' := ?_) #[true, true, true, true, true, true, true, false, true, false, false] rfl rfl (zp HT_.out (by kernel_rfl)) (fun _ _ _ h => h) (Or.inl ⟨by rfl, ?_⟩) ?_ ?_
                 rotate_left
                 ·intro w'; go_simp; with_reducible rfl
                 rotate_left
                 ·simp only [Act.put, List.setIfInBounds_toArray, List.set_cons_zero, List.set_cons_succ, zi, zj]; rfl
                 refine zx (i := 7) (N := some 101) (v := ?_) (a' := ?_) #[true, true, true, true, true, true, true, true, true, false, false] rfl rfl (zp HT_.out (by kernel_rfl)) (fun _ _ _ h => h) (Or.inl ⟨by rfl, ?_⟩) ?_ ?_
                 rotate_left
                 ·intro w'; go_simp; with_reducible rfl
                 rotate_left
                 ·simp only [Act.put, List.setIfInBounds_toArray, List.set_cons_zero, List.set_cons_succ, zi, zj]; rfl
                 exact qh (by simp only [ja, Act.put, List.setIfInBounds_toArray, List.set_cons_zero, List.set_cons_succ]) (hCont (.slice Ao179 t299.length co179, .slice Ao180 t303.length co180, v308, gb311) _ ⟨hHeld, (by refine sqR ?_; exact Kd.zo HO301.out (fun _ hk => ⟨hk.1.2, ⟨hk.2, ⟨hk.1.1.1.1.1.2, ⟨hk.1.1.1.1.2, ⟨hk.1.1.1.2, hk.1.1.2⟩⟩⟩⟩⟩)), (by refine sqR ?_; exact Kd.zo HO305.out (fun _ hk => ⟨hk.1.2, ⟨hk.2, ⟨hk.1.1.1.1.1.2, ⟨hk.1.1.1.1.2, ⟨hk.1.1.1.2, hk.1.1.2⟩⟩⟩⟩⟩)), (by refine sqR ?_; exact Kd.zo HO309.out (fun _ hk => ⟨hk.1.2, ⟨hk.2, ⟨hk.1.1.1.1.1.2, ⟨hk.1.1.1.1.2, ⟨hk.1.1.1.2, hk.1.1.2⟩⟩⟩⟩⟩)), (by refine sqR ?_; exact Kd.zo HO_263001.out (fun _ hk => ⟨hk.1.1.2, ⟨hk.1.2, ⟨hk.2, ⟨hk.1.1.1.1, ⟨hk.1.1.1.2.1, hk.1.1.1.2.2⟩⟩⟩⟩⟩)), (by refine sqR ?_; exact Kd.zo HO_268001.out (fun _ hk => ⟨hk.1.1.2, ⟨hk.1.2, ⟨hk.2, ⟨hk.1.1.1.1, ⟨hk.1.1.1.2.1, hk.1.1.1.2.2⟩⟩⟩⟩⟩)), (by refine sqR ?_; exact Kd.zo HO_273001.out (fun _ hk => ⟨hk.1.1.2, ⟨hk.1.2, ⟨hk.2, ⟨hk.1.1.1.1, ⟨hk.1.1.1.2.1, hk.1.1.1.2.2⟩⟩⟩⟩⟩)), (by refine sqR ?_; exact Kd.zo HO_279001.out (fun _ hk => ⟨hk.1.1.2, ⟨hk.1.2, ⟨hk.2, ⟨hk.1.1.1.1, ⟨hk.1.1.1.2.1, hk.1.1.1.2.2⟩⟩⟩⟩⟩)), (sqK BK245.out), (sqK BK246.out), (sqK BK262.out), (sqK BK267.out), (sqK BK272.out), (sqK BK278.out), (sqK BK311.out), GW311.out, GE311.out, NB245_311.out, NB311_245.out, NB246_311.out, NB311_246.out, NB262_311.out, NB311_262.out, NB267_311.out, NB311_267.out, NB272_311.out, NB311_272.out, NB278_311.out, NB311_278.out, sqB⟩)
               ·skip
                refine jf ?hg (N := 15) ?hd (cs := #[.int .i64 0, .slice none 0 0]) (t := 26) ?hr ?_; (case hd => rfl); (case hg => rfl); (case hr => exact sqG)
                intro gb311 hg w177 hbox hb
                have n0_ := Aside0.mk (Kd.zu (sqR HO_263001.out) hb)
                have n1_ := Aside0.mk (Kd.zu (sqR HO_268001.out) hb)
                have n2_ := Aside0.mk (Kd.zu (sqR HO_273001.out) hb)
                have n3_ := Aside0.mk (Kd.zu (sqR HO_279001.out) hb)
                have n4_ := Aside0.mk (Kd.zu (sqR HO301.out) hb)
                have n5_ := Aside0.mk (zb (g := gb245) (o := .cells #[.int .i64 a0_0, .slice A0_1 l0_1.length c0_1] 24 (0, 0)) (sqK BK245.out) hb)
                have n6_ := Aside0.mk (zb (g := gb246) (o := .cells #[.int .i64 a1_0, .slice A1_1 l1_1.length c1_1] 24 (0, 0)) (sqK BK246.out) hb)
                have n7_ := Aside0.mk (zb (g := gb262) (o := .cells #[.int .i64 t257, .slice Ao42 t258.length co42] 26 (0, 0)) (sqK BK262.out) hb)
                have n8_ := Aside0.mk (zb (g := gb267) (o := .cells #[.int .i64 t263, .slice Ao52 t291.length co52] 26 (0, 0)) (sqK BK267.out) hb)
                have n9_ := Aside0.mk (zb (g := gb272) (o := .cells #[.int .i64 t268, .slice Ao62 t293.length co62] 26 (0, 0)) (sqK BK272.out) hb)
                have n10_ := Aside0.mk (zb (g := gb278) (o := .cells #[.int .i64 t273, .slice Ao72 t274.length co72] 26 (0, 0)) (sqK BK278.out) hb)
                have n11_ := Aside0.mk (ze sqB hb)
                have n12_ := Aside0.mk (hbox)
                have n13_ := Aside0.mk ((sqS hg : w.heap.size ≤ gb311))
                have n14_ := Aside0.mk ((sqS hg : w.heap.size ≤ gb311))
                have n15_ := Aside0.mk ((by rw [hg]; exact Nat.ne_of_lt (zt (g := gb245) (o := .cells #[.int .i64 a0_0, .slice A0_1 l0_1.length c0_1] 24 (0, 0)) (sqK BK245.out)) : gb245 ≠ gb311))
                have n16_ := Aside0.mk ((by rw [hg]; exact Nat.ne_of_gt (zt (g := gb245) (o := .cells #[.int .i64 a0_0, .slice A0_1 l0_1.length c0_1] 24 (0, 0)) (sqK BK245.out)) : gb311 ≠ gb245))
                have n17_ := Aside0.mk ((by rw [hg]; exact Nat.ne_of_lt (zt (g := gb246) (o := .cells #[.int .i64 a1_0, .slice A1_1 l1_1.length c1_1] 24 (0, 0)) (sqK BK246.out)) : gb246 ≠ gb311))
                have n18_ := Aside0.mk ((by rw [hg]; exact Nat.ne_of_gt (zt (g := gb246) (o := .cells #[.int .i64 a1_0, .slice A1_1 l1_1.length c1_1] 24 (0, 0)) (sqK BK246.out)) : gb311 ≠ gb246))
                have n19_ := Aside0.mk ((by rw [hg]; exact Nat.ne_of_lt (zt (g := gb262) (o := .cells #[.int .i64 t257, .slice Ao42 t258.length co42] 26 (0, 0)) (sqK BK262.out)) : gb262 ≠ gb311))
                have n20_ := Aside0.mk ((by rw [hg]; exact Nat.ne_of_gt (zt (g := gb262) (o := .cells #[.int .i64 t257, .slice Ao42 t258.length co42] 26 (0, 0)) (sqK BK262.out)) : gb311 ≠ gb262))
                have n21_ := Aside0.mk ((by rw [hg]; exact Nat.ne_of_lt (zt (g := gb267) (o := .cells #[.int .i64 t263, .slice Ao52 t291.length co52] 26 (0, 0)) (sqK BK267.out)) : gb267 ≠ gb311))
                have n22_ := Aside0.mk ((by rw [hg]; exact Nat.ne_of_gt (zt (g := gb267) (o := .cells #[.int .i64 t263, .slice Ao52 t291.length co52] 26 (0, 0)) (sqK BK267.out)) : gb311 ≠ gb267))
                have n23_ := Aside0.mk ((by rw [hg]; exact Nat.ne_of_lt (zt (g := gb272) (o := .cells #[.int .i64 t268, .slice Ao62 t293.length co62] 26 (0, 0)) (sqK BK272.out)) : gb272 ≠ gb311))
                have n24_ := Aside0.mk ((by rw [hg]; exact Nat.ne_of_gt (zt (g := gb272) (o := .cells #[.int .i64 t268, .slice Ao62 t293.length co62] 26 (0, 0)) (sqK BK272.out)) : gb311 ≠ gb272))
                have n25_ := Aside0.mk ((by rw [hg]; exact Nat.ne_of_lt (zt (g := gb278) (o := .cells #[.int .i64 t273, .slice Ao72 t274.length co72] 26 (0, 0)) (sqK BK278.out)) : gb278 ≠ gb311))
                have n26_ := Aside0.mk ((by rw [hg]; exact Nat.ne_of_gt (zt (g := gb278) (o := .cells #[.int .i64 t273, .slice Ao72 t274.length co72] 26 (0, 0)) (sqK BK278.out)) : gb311 ≠ gb278))
                clear HO_263001 HO_268001 HO_273001 HO_279001 HO301 BK245 BK246 BK262 BK267 BK272 BK278 HB; have HO_263001 := n0_; have HO_268001 := n1_; have HO_273001 := n2_; have HO_279001 := n3_; have HO301 := n4_; have BK245 := n5_; have BK246 := n6_; have BK262 := n7_; have BK267 := n8_; have BK272 := n9_; have BK278 := n10_; have HB := n11_; have BK311 := n12_; have GW311 := n13_; have GE311 := n14_; have NB245_311 := n15_; have NB311_245 := n16_; have NB246_311 := n17_; have NB311_246 := n18_; have NB262_311 := n19_; have NB311_262 := n20_; have NB267_311 := n21_; have NB311_267 := n22_; have NB272_311 := n23_; have NB311_272 := n24_; have NB278_311 := n25_; have NB311_278 := n26_; clear n0_ n1_ n2_ n3_ n4_ n5_ n6_ n7_ n8_ n9_ n10_ n11_ n12_ n13_ n14_ n15_ n16_ n17_ n18_ n19_ n20_ n21_ n22_ n23_ n24_ n25_ n26_ hb hbox hg
                refine hK.out _ _ ⟨(za BK245.out 0).trans rfl, (za BK245.out 1).trans rfl, (za BK246.out 0).trans rfl, (za BK246.out 1).trans rfl⟩ (fun hHeld => ?_)
                clear hK K
                refine qh (a' := ?_) ?_ ?_
                rotate_left
                ·show Act.put _ (some 15) _ = _; simp only [Act.put, List.setIfInBounds_toArray, List.set_cons_zero, List.set_cons_succ, zi, zj]; rfl
                refine qW (i := 3) (N := some 98) #[true, true, true, true, false, false, false, false, true, false, false] rfl rfl (qp HT_.out (by kernel_rfl)) (by decide) (fun K hK => ?_)
                refine qP Try.func13 (by kernel_rfl) rfl #[.agg #[.int .i64 a1_0, .slice A1_1 l1_1.length c1_1]] (by rfl) rfl rfl sqM ?_
                with_reducible refine (zl.calls kj107 a1_0 _ _ l1_1 t302 t303 _ ?side1 ?side2 A163.out).mono ?_
                (case side1 => exact sqC (Kd.zF HR1_1.out HB.out))
                (case side2 => exact HC1_1.out)
                rintro e w178 ⟨v304, rfl, ho0, hb⟩
                refine ⟨_, rfl, ?_⟩
                have n0_ := Aside0.mk (Kd.zw (sqR HO_263001.out) (Kd.zI ho0) hb)
                have n1_ := Aside0.mk (Kd.zw (sqR HO_268001.out) (Kd.zI ho0) hb)
                have n2_ := Aside0.mk (Kd.zw (sqR HO_273001.out) (Kd.zI ho0) hb)
                have n3_ := Aside0.mk (Kd.zw (sqR HO_279001.out) (Kd.zI ho0) hb)
                have n4_ := Aside0.mk (Kd.zw (sqR HO301.out) (Kd.zI ho0) hb)
                have n5_ := Aside0.mk (Kd.qd (Kd.zH (Kd.zH (Kd.zH (Kd.zH (Kd.zH ho0 (Kd.qc (sqR HO_263001.out))) (Kd.qc (sqR HO_268001.out))) (Kd.qc (sqR HO_273001.out))) (Kd.qc (sqR HO_279001.out))) (Kd.qc (sqR HO301.out))) (zA sqB))
                have n6_ := Aside0.mk (zb (g := gb245) (o := .cells #[.int .i64 a0_0, .slice A0_1 l0_1.length c0_1] 24 (0, 0)) (sqK BK245.out) hb)
                have n7_ := Aside0.mk (zb (g := gb246) (o := .cells #[.int .i64 a1_0, .slice A1_1 l1_1.length c1_1] 24 (0, 0)) (sqK BK246.out) hb)
                have n8_ := Aside0.mk (zb (g := gb262) (o := .cells #[.int .i64 t257, .slice Ao42 t258.length co42] 26 (0, 0)) (sqK BK262.out) hb)
                have n9_ := Aside0.mk (zb (g := gb267) (o := .cells #[.int .i64 t263, .slice Ao52 t291.length co52] 26 (0, 0)) (sqK BK267.out) hb)
                have n10_ := Aside0.mk (zb (g := gb272) (o := .cells #[.int .i64 t268, .slice Ao62 t293.length co62] 26 (0, 0)) (sqK BK272.out) hb)
                have n11_ := Aside0.mk (zb (g := gb278) (o := .cells #[.int .i64 t273, .slice Ao72 t274.length co72] 26 (0, 0)) (sqK BK278.out) hb)
                have n12_ := Aside0.mk (zb (g := gb311) (o := .cells #[.int .i64 0, .slice none 0 0] 26 (0, 0)) (sqK BK311.out) hb)
                have n13_ := Aside0.mk (ze sqB hb)
                clear HO_263001 HO_268001 HO_273001 HO_279001 HO301 BK245 BK246 BK262 BK267 BK272 BK278 BK311 HB; have HO_263001 := n0_; have HO_268001 := n1_; have HO_273001 := n2_; have HO_279001 := n3_; have HO301 := n4_; have HO305 := n5_; have BK245 := n6_; have BK246 := n7_; have BK262 := n8_; have BK267 := n9_; have BK272 := n10_; have BK278 := n11_; have BK311 := n12_; have HB := n13_; clear n0_ n1_ n2_ n3_ n4_ n5_ n6_ n7_ n8_ n9_ n10_ n11_ n12_ n13_; (try clear hb); (try clear hb2); (try clear hk); (try clear hi); (try clear ho0)
                obtain ⟨Ao179, co179, eo179⟩ := Kd.zX HO301.out
                (first | subst eo179 | (injection eo179 with f1_ f2_ f3_; have f4_ := f1_.symm; have f5_ := f3_.symm; clear f1_ f2_ f3_; subst f4_; subst f5_))
                obtain ⟨Ao180, co180, eo180⟩ := Kd.zX HO305.out
                (first | subst eo180 | (injection eo180 with f1_ f2_ f3_; have f4_ := f1_.symm; have f5_ := f3_.symm; clear f1_ f2_ f3_; subst f4_; subst f5_))
                refine hK.out _ _ ⟨(za BK245.out 0).trans rfl, (za BK245.out 1).trans rfl, (za BK246.out 0).trans rfl, (za BK246.out 1).trans rfl⟩ (fun hHeld => ?_)
                clear hK K
                refine qh (a' := ?_) ?_ ?_
                rotate_left
                ·show Act.put _ (some 98) _ = _; simp only [Act.put, List.setIfInBounds_toArray, List.set_cons_zero, List.set_cons_succ, zi, zj]; rfl
                refine qW (i := 4) (N := some 99) #[true, true, true, true, true, false, false, false, true, false, false] rfl rfl (qp HT_.out (by kernel_rfl)) (by decide) (fun K hK => ?_)
                refine qP Try.func27 (by kernel_rfl) rfl #[.agg #[.int .i64 t298, .slice Ao179 t299.length co179], .agg #[.int .i64 t302, .slice Ao180 t303.length co180]] (by rfl) rfl rfl sqM ?_
                with_reducible refine (zg.calls kj107 t298 _ _ t299 t302 _ _ t303 t306 t307 t310 _ ?side1 ?side2 ?side3 ?side4 A164.out).mono ?_
                (case side1 => exact sqC (Kd.zq HO301.out).2.2)
                (case side2 => exact (Kd.zq HO301.out).2.1)
                (case side3 => exact sqC (Kd.zq HO305.out).2.2)
                (case side4 => exact (Kd.zq HO305.out).2.1)
                rintro e w181 ⟨v308, rfl, ho0, hb⟩
                refine ⟨_, rfl, ?_⟩
                have n0_ := Aside0.mk (Kd.zw (sqR HO_263001.out) (Kd.zI ho0) hb)
                have n1_ := Aside0.mk (Kd.zw (sqR HO_268001.out) (Kd.zI ho0) hb)
                have n2_ := Aside0.mk (Kd.zw (sqR HO_273001.out) (Kd.zI ho0) hb)
                have n3_ := Aside0.mk (Kd.zw (sqR HO_279001.out) (Kd.zI ho0) hb)
                have n4_ := Aside0.mk (Kd.zw (sqR HO301.out) (Kd.zI ho0) hb)
                have n5_ := Aside0.mk (Kd.zw (sqR HO305.out) (Kd.zI ho0) hb)
                have n6_ := Aside0.mk (Kd.qd (Kd.zH (Kd.zH (Kd.zH (Kd.zH (Kd.zH (Kd.zH ho0 (Kd.qc (sqR HO_263001.out))) (Kd.qc (sqR HO_268001.out))) (Kd.qc (sqR HO_273001.out))) (Kd.qc (sqR HO_279001.out))) (Kd.qc (sqR HO301.out))) (Kd.qc (sqR HO305.out))) (zA sqB))
                have n7_ := Aside0.mk (zb (g := gb245) (o := .cells #[.int .i64 a0_0, .slice A0_1 l0_1.length c0_1] 24 (0, 0)) (sqK BK245.out) hb)
                have n8_ := Aside0.mk (zb (g := gb246) (o := .cells #[.int .i64 a1_0, .slice A1_1 l1_1.length c1_1] 24 (0, 0)) (sqK BK246.out) hb)
                have n9_ := Aside0.mk (zb (g := gb262) (o := .cells #[.int .i64 t257, .slice Ao42 t258.length co42] 26 (0, 0)) (sqK BK262.out) hb)
                have n10_ := Aside0.mk (zb (g := gb267) (o := .cells #[.int .i64 t263, .slice Ao52 t291.length co52] 26 (0, 0)) (sqK BK267.out) hb)
                have n11_ := Aside0.mk (zb (g := gb272) (o := .cells #[.int .i64 t268, .slice Ao62 t293.length co62] 26 (0, 0)) (sqK BK272.out) hb)
                have n12_ := Aside0.mk (zb (g := gb278) (o := .cells #[.int .i64 t273, .slice Ao72 t274.length co72] 26 (0, 0)) (sqK BK278.out) hb)
                have n13_ := Aside0.mk (zb (g := gb311) (o := .cells #[.int .i64 0, .slice none 0 0] 26 (0, 0)) (sqK BK311.out) hb)
                have n14_ := Aside0.mk (ze sqB hb)
                clear HO_263001 HO_268001 HO_273001 HO_279001 HO301 HO305 BK245 BK246 BK262 BK267 BK272 BK278 BK311 HB; have HO_263001 := n0_; have HO_268001 := n1_; have HO_273001 := n2_; have HO_279001 := n3_; have HO301 := n4_; have HO305 := n5_; have HO309 := n6_; have BK245 := n7_; have BK246 := n8_; have BK262 := n9_; have BK267 := n10_; have BK272 := n11_; have BK278 := n12_; have BK311 := n13_; have HB := n14_; clear n0_ n1_ n2_ n3_ n4_ n5_ n6_ n7_ n8_ n9_ n10_ n11_ n12_ n13_ n14_; (try clear hb); (try clear hb2); (try clear hk); (try clear hi); (try clear ho0)
                refine hK.out _ _ ⟨(za BK245.out 0).trans rfl, (za BK245.out 1).trans rfl, (za BK246.out 0).trans rfl, (za BK246.out 1).trans rfl⟩ (fun hHeld => ?_)
                clear hK K
                refine qh (a' := ?_) ?_ ?_
                rotate_left
                ·show Act.put _ (some 99) _ = _; simp only [Act.put, List.setIfInBounds_toArray, List.set_cons_zero, List.set_cons_succ, zi, zj]; rfl
                refine zx (i := 5) (N := some 94) (v := ?_) (a' := ?_) #[true, true, true, true, true, true, false, false, true, false, false] rfl rfl (zp HT_.out (by kernel_rfl)) (fun _ _ _ h => h) (Or.inl ⟨by rfl, ?_⟩) ?_ ?_
                rotate_left
                ·intro w'; go_simp; with_reducible rfl
                rotate_left
                ·simp only [Act.put, List.setIfInBounds_toArray, List.set_cons_zero, List.set_cons_succ, zi, zj]; rfl
                refine zx (i := 6) (N := some 100) (v := ?_) (a' := ?_) #[true, true, true, true, true, true, true, false, true, false, false] rfl rfl (zp HT_.out (by kernel_rfl)) (fun _ _ _ h => h) (Or.inl ⟨by rfl, ?_⟩) ?_ ?_
                rotate_left
                ·intro w'; go_simp; with_reducible rfl
                rotate_left
                ·simp only [Act.put, List.setIfInBounds_toArray, List.set_cons_zero, List.set_cons_succ, zi, zj]; rfl
                refine zx (i := 7) (N := some 101) (v := ?_) (a' := ?_) #[true, true, true, true, true, true, true, true, true, false, false] rfl rfl (zp HT_.out (by kernel_rfl)) (fun _ _ _ h => h) (Or.inl ⟨by rfl, ?_⟩) ?_ ?_
                rotate_left
                ·intro w'; go_simp; with_reducible rfl
                rotate_left
                ·simp only [Act.put, List.setIfInBounds_toArray, List.set_cons_zero, List.set_cons_succ, zi, zj]; rfl
                exact qh (by simp only [ja, Act.put, List.setIfInBounds_toArray, List.set_cons_zero, List.set_cons_succ]) (hCont (.slice Ao179 t299.length co179, .slice Ao180 t303.length co180, v308, gb311) _ ⟨hHeld, (by refine sqR ?_; exact Kd.zo HO301.out (fun _ hk => ⟨hk.1.2, ⟨hk.2, ⟨hk.1.1.1.1.1.2, ⟨hk.1.1.1.1.2, ⟨hk.1.1.1.2, hk.1.1.2⟩⟩⟩⟩⟩)), (by refine sqR ?_; exact Kd.zo HO305.out (fun _ hk => ⟨hk.1.2, ⟨hk.2, ⟨hk.1.1.1.1.1.2, ⟨hk.1.1.1.1.2, ⟨hk.1.1.1.2, hk.1.1.2⟩⟩⟩⟩⟩)), (by refine sqR ?_; exact Kd.zo HO309.out (fun _ hk => ⟨hk.1.2, ⟨hk.2, ⟨hk.1.1.1.1.1.2, ⟨hk.1.1.1.1.2, ⟨hk.1.1.1.2, hk.1.1.2⟩⟩⟩⟩⟩)), (by refine sqR ?_; exact Kd.zo HO_263001.out (fun _ hk => ⟨hk.1.1.2, ⟨hk.1.2, ⟨hk.2, ⟨hk.1.1.1.1, ⟨hk.1.1.1.2.1, hk.1.1.1.2.2⟩⟩⟩⟩⟩)), (by refine sqR ?_; exact Kd.zo HO_268001.out (fun _ hk => ⟨hk.1.1.2, ⟨hk.1.2, ⟨hk.2, ⟨hk.1.1.1.1, ⟨hk.1.1.1.2.1, hk.1.1.1.2.2⟩⟩⟩⟩⟩)), (by refine sqR ?_; exact Kd.zo HO_273001.out (fun _ hk => ⟨hk.1.1.2, ⟨hk.1.2, ⟨hk.2, ⟨hk.1.1.1.1, ⟨hk.1.1.1.2.1, hk.1.1.1.2.2⟩⟩⟩⟩⟩)), (by refine sqR ?_; exact Kd.zo HO_279001.out (fun _ hk => ⟨hk.1.1.2, ⟨hk.1.2, ⟨hk.2, ⟨hk.1.1.1.1, ⟨hk.1.1.1.2.1, hk.1.1.1.2.2⟩⟩⟩⟩⟩)), (sqK BK245.out), (sqK BK246.out), (sqK BK262.out), (sqK BK267.out), (sqK BK272.out), (sqK BK278.out), (sqK BK311.out), GW311.out, GE311.out, NB245_311.out, NB311_245.out, NB246_311.out, NB311_246.out, NB262_311.out, NB311_262.out, NB267_311.out, NB311_267.out, NB272_311.out, NB311_272.out, NB278_311.out, NB311_278.out, sqB⟩)
              ·skip
               refine jf ?hg (N := 15) ?hd (cs := #[.int .i64 0, .slice none 0 0]) (t := 26) ?hr ?_; (case hd => rfl); (case hg => rfl); (case hr => exact sqG)
               intro gb311 hg w176 hbox hb
               have n0_ := Aside0.mk (Kd.zu (sqR HO_263001.out) hb)
               have n1_ := Aside0.mk (Kd.zu (sqR HO_268001.out) hb)
               have n2_ := Aside0.mk (Kd.zu (sqR HO_273001.out) hb)
               have n3_ := Aside0.mk (Kd.zu (sqR HO_279001.out) hb)
               have n4_ := Aside0.mk (zb (g := gb245) (o := .cells #[.int .i64 a0_0, .slice A0_1 l0_1.length c0_1] 24 (0, 0)) (sqK BK245.out) hb)
               have n5_ := Aside0.mk (zb (g := gb246) (o := .cells #[.int .i64 a1_0, .slice A1_1 l1_1.length c1_1] 24 (0, 0)) (sqK BK246.out) hb)
               have n6_ := Aside0.mk (zb (g := gb262) (o := .cells #[.int .i64 t257, .slice Ao42 t258.length co42] 26 (0, 0)) (sqK BK262.out) hb)
               have n7_ := Aside0.mk (zb (g := gb267) (o := .cells #[.int .i64 t263, .slice Ao52 t291.length co52] 26 (0, 0)) (sqK BK267.out) hb)
               have n8_ := Aside0.mk (zb (g := gb272) (o := .cells #[.int .i64 t268, .slice Ao62 t293.length co62] 26 (0, 0)) (sqK BK272.out) hb)
               have n9_ := Aside0.mk (zb (g := gb278) (o := .cells #[.int .i64 t273, .slice Ao72 t274.length co72] 26 (0, 0)) (sqK BK278.out) hb)
               have n10_ := Aside0.mk (ze sqB hb)
               have n11_ := Aside0.mk (hbox)
               have n12_ := Aside0.mk ((sqS hg : w.heap.size ≤ gb311))
               have n13_ := Aside0.mk ((sqS hg : w.heap.size ≤ gb311))
               have n14_ := Aside0.mk ((by rw [hg]; exact Nat.ne_of_lt (zt (g := gb245) (o := .cells #[.int .i64 a0_0, .slice A0_1 l0_1.length c0_1] 24 (0, 0)) (sqK BK245.out)) : gb245 ≠ gb311))
               have n15_ := Aside0.mk ((by rw [hg]; exact Nat.ne_of_gt (zt (g := gb245) (o := .cells #[.int .i64 a0_0, .slice A0_1 l0_1.length c0_1] 24 (0, 0)) (sqK BK245.out)) : gb311 ≠ gb245))
               have n16_ := Aside0.mk ((by rw [hg]; exact Nat.ne_of_lt (zt (g := gb246) (o := .cells #[.int .i64 a1_0, .slice A1_1 l1_1.length c1_1] 24 (0, 0)) (sqK BK246.out)) : gb246 ≠ gb311))
               have n17_ := Aside0.mk ((by rw [hg]; exact Nat.ne_of_gt (zt (g := gb246) (o := .cells #[.int .i64 a1_0, .slice A1_1 l1_1.length c1_1] 24 (0, 0)) (sqK BK246.out)) : gb311 ≠ gb246))
               have n18_ := Aside0.mk ((by rw [hg]; exact Nat.ne_of_lt (zt (g := gb262) (o := .cells #[.int .i64 t257, .slice Ao42 t258.length co42] 26 (0, 0)) (sqK BK262.out)) : gb262 ≠ gb311))
               have n19_ := Aside0.mk ((by rw [hg]; exact Nat.ne_of_gt (zt (g := gb262) (o := .cells #[.int .i64 t257, .slice Ao42 t258.length co42] 26 (0, 0)) (sqK BK262.out)) : gb311 ≠ gb262))
               have n20_ := Aside0.mk ((by rw [hg]; exact Nat.ne_of_lt (zt (g := gb267) (o := .cells #[.int .i64 t263, .slice Ao52 t291.length co52] 26 (0, 0)) (sqK BK267.out)) : gb267 ≠ gb311))
               have n21_ := Aside0.mk ((by rw [hg]; exact Nat.ne_of_gt (zt (g := gb267) (o := .cells #[.int .i64 t263, .slice Ao52 t291.length co52] 26 (0, 0)) (sqK BK267.out)) : gb311 ≠ gb267))
               have n22_ := Aside0.mk ((by rw [hg]; exact Nat.ne_of_lt (zt (g := gb272) (o := .cells #[.int .i64 t268, .slice Ao62 t293.length co62] 26 (0, 0)) (sqK BK272.out)) : gb272 ≠ gb311))
               have n23_ := Aside0.mk ((by rw [hg]; exact Nat.ne_of_gt (zt (g := gb272) (o := .cells #[.int .i64 t268, .slice Ao62 t293.length co62] 26 (0, 0)) (sqK BK272.out)) : gb311 ≠ gb272))
               have n24_ := Aside0.mk ((by rw [hg]; exact Nat.ne_of_lt (zt (g := gb278) (o := .cells #[.int .i64 t273, .slice Ao72 t274.length co72] 26 (0, 0)) (sqK BK278.out)) : gb278 ≠ gb311))
               have n25_ := Aside0.mk ((by rw [hg]; exact Nat.ne_of_gt (zt (g := gb278) (o := .cells #[.int .i64 t273, .slice Ao72 t274.length co72] 26 (0, 0)) (sqK BK278.out)) : gb311 ≠ gb278))
               clear HO_263001 HO_268001 HO_273001 HO_279001 BK245 BK246 BK262 BK267 BK272 BK278 HB; have HO_263001 := n0_; have HO_268001 := n1_; have HO_273001 := n2_; have HO_279001 := n3_; have BK245 := n4_; have BK246 := n5_; have BK262 := n6_; have BK267 := n7_; have BK272 := n8_; have BK278 := n9_; have HB := n10_; have BK311 := n11_; have GW311 := n12_; have GE311 := n13_; have NB245_311 := n14_; have NB311_245 := n15_; have NB246_311 := n16_; have NB311_246 := n17_; have NB262_311 := n18_; have NB311_262 := n19_; have NB267_311 := n20_; have NB311_267 := n21_; have NB272_311 := n22_; have NB311_272 := n23_; have NB278_311 := n24_; have NB311_278 := n25_; clear n0_ n1_ n2_ n3_ n4_ n5_ n6_ n7_ n8_ n9_ n10_ n11_ n12_ n13_ n14_ n15_ n16_ n17_ n18_ n19_ n20_ n21_ n22_ n23_ n24_ n25_ hb hbox hg
               refine hK.out _ _ ⟨(za BK245.out 0).trans rfl, (za BK245.out 1).trans rfl, (za BK246.out 0).trans rfl, (za BK246.out 1).trans rfl⟩ (fun hHeld => ?_)
               clear hK K
               refine qh (a' := ?_) ?_ ?_
               rotate_left
               ·show Act.put _ (some 15) _ = _; simp only [Act.put, List.setIfInBounds_toArray, List.set_cons_zero, List.set_cons_succ, zi, zj]; rfl
               refine qW (i := 1) (N := some 96) #[true, true, true, false, false, false, false, false, true, false, false] rfl rfl (qp HT_.out (by kernel_rfl)) (by decide) (fun K hK => ?_)
               refine qP Try.func13 (by kernel_rfl) rfl #[.agg #[.int .i64 a0_0, .slice A0_1 l0_1.length c0_1]] (by rfl) rfl rfl sqM ?_
               with_reducible refine (zl.calls kj107 a0_0 _ _ l0_1 t298 t299 _ ?side1 ?side2 A162.out).mono ?_
               (case side1 => exact sqC (Kd.zF HR0_1.out HB.out))
               (case side2 => exact HC0_1.out)
               rintro e w177 ⟨v300, rfl, ho0, hb⟩
               refine ⟨_, rfl, ?_⟩
               have n0_ := Aside0.mk (Kd.zw (sqR HO_263001.out) (Kd.zI ho0) hb)
               have n1_ := Aside0.mk (Kd.zw (sqR HO_268001.out) (Kd.zI ho0) hb)
               have n2_ := Aside0.mk (Kd.zw (sqR HO_273001.out) (Kd.zI ho0) hb)
               have n3_ := Aside0.mk (Kd.zw (sqR HO_279001.out) (Kd.zI ho0) hb)
               have n4_ := Aside0.mk (Kd.qd (Kd.zH (Kd.zH (Kd.zH (Kd.zH ho0 (Kd.qc (sqR HO_263001.out))) (Kd.qc (sqR HO_268001.out))) (Kd.qc (sqR HO_273001.out))) (Kd.qc (sqR HO_279001.out))) (zA sqB))
               have n5_ := Aside0.mk (zb (g := gb245) (o := .cells #[.int .i64 a0_0, .slice A0_1 l0_1.length c0_1] 24 (0, 0)) (sqK BK245.out) hb)
               have n6_ := Aside0.mk (zb (g := gb246) (o := .cells #[.int .i64 a1_0, .slice A1_1 l1_1.length c1_1] 24 (0, 0)) (sqK BK246.out) hb)
               have n7_ := Aside0.mk (zb (g := gb262) (o := .cells #[.int .i64 t257, .slice Ao42 t258.length co42] 26 (0, 0)) (sqK BK262.out) hb)
               have n8_ := Aside0.mk (zb (g := gb267) (o := .cells #[.int .i64 t263, .slice Ao52 t291.length co52] 26 (0, 0)) (sqK BK267.out) hb)
               have n9_ := Aside0.mk (zb (g := gb272) (o := .cells #[.int .i64 t268, .slice Ao62 t293.length co62] 26 (0, 0)) (sqK BK272.out) hb)
               have n10_ := Aside0.mk (zb (g := gb278) (o := .cells #[.int .i64 t273, .slice Ao72 t274.length co72] 26 (0, 0)) (sqK BK278.out) hb)
               have n11_ := Aside0.mk (zb (g := gb311) (o := .cells #[.int .i64 0, .slice none 0 0] 26 (0, 0)) (sqK BK311.out) hb)
               have n12_ := Aside0.mk (ze sqB hb)
               clear HO_263001 HO_268001 HO_273001 HO_279001 BK245 BK246 BK262 BK267 BK272 BK278 BK311 HB; have HO_263001 := n0_; have HO_268001 := n1_; have HO_273001 := n2_; have HO_279001 := n3_; have HO301 := n4_; have BK245 := n5_; have BK246 := n6_; have BK262 := n7_; have BK267 := n8_; have BK272 := n9_; have BK278 := n10_; have BK311 := n11_; have HB := n12_; clear n0_ n1_ n2_ n3_ n4_ n5_ n6_ n7_ n8_ n9_ n10_ n11_ n12_; (try clear hb); (try clear hb2); (try clear hk); (try clear hi); (try clear ho0)
               refine hK.out _ _ ⟨(za BK245.out 0).trans rfl, (za BK245.out 1).trans rfl, (za BK246.out 0).trans rfl, (za BK246.out 1).trans rfl⟩ (fun hHeld => ?_)
               clear hK K
               refine qh (a' := ?_) ?_ ?_
               rotate_left
               ·show Act.put _ (some 96) _ = _; simp only [Act.put, List.setIfInBounds_toArray, List.set_cons_zero, List.set_cons_succ, zi, zj]; rfl
               refine qW (i := 3) (N := some 98) #[true, true, true, true, false, false, false, false, true, false, false] rfl rfl (qp HT_.out (by kernel_rfl)) (by decide) (fun K hK => ?_)
               refine qP Try.func13 (by kernel_rfl) rfl #[.agg #[.int .i64 a1_0, .slice A1_1 l1_1.length c1_1]] (by rfl) rfl rfl sqM ?_
               with_reducible refine (zl.calls kj107 a1_0 _ _ l1_1 t302 t303 _ ?side1 ?side2 A163.out).mono ?_
               (case side1 => exact sqC (Kd.zF HR1_1.out HB.out))
               (case side2 => exact HC1_1.out)
               rintro e w178 ⟨v304, rfl, ho0, hb⟩
               refine ⟨_, rfl, ?_⟩
               have n0_ := Aside0.mk (Kd.zw (sqR HO_263001.out) (Kd.zI ho0) hb)
               have n1_ := Aside0.mk (Kd.zw (sqR HO_268001.out) (Kd.zI ho0) hb)
               have n2_ := Aside0.mk (Kd.zw (sqR HO_273001.out) (Kd.zI ho0) hb)
               have n3_ := Aside0.mk (Kd.zw (sqR HO_279001.out) (Kd.zI ho0) hb)
               have n4_ := Aside0.mk (Kd.zw (sqR HO301.out) (Kd.zI ho0) hb)
               have n5_ := Aside0.mk (Kd.qd (Kd.zH (Kd.zH (Kd.zH (Kd.zH (Kd.zH ho0 (Kd.qc (sqR HO_263001.out))) (Kd.qc (sqR HO_268001.out))) (Kd.qc (sqR HO_273001.out))) (Kd.qc (sqR HO_279001.out))) (Kd.qc (sqR HO301.out))) (zA sqB))
               have n6_ := Aside0.mk (zb (g := gb245) (o := .cells #[.int .i64 a0_0, .slice A0_1 l0_1.length c0_1] 24 (0, 0)) (sqK BK245.out) hb)
               have n7_ := Aside0.mk (zb (g := gb246) (o := .cells #[.int .i64 a1_0, .slice A1_1 l1_1.length c1_1] 24 (0, 0)) (sqK BK246.out) hb)
               have n8_ := Aside0.mk (zb (g := gb262) (o := .cells #[.int .i64 t257, .slice Ao42 t258.length co42] 26 (0, 0)) (sqK BK262.out) hb)
               have n9_ := Aside0.mk (zb (g := gb267) (o := .cells #[.int .i64 t263, .slice Ao52 t291.length co52] 26 (0, 0)) (sqK BK267.out) hb)
               have n10_ := Aside0.mk (zb (g := gb272) (o := .cells #[.int .i64 t268, .slice Ao62 t293.length co62] 26 (0, 0)) (sqK BK272.out) hb)
               have n11_ := Aside0.mk (zb (g := gb278) (o := .cells #[.int .i64 t273, .slice Ao72 t274.length co72] 26 (0, 0)) (sqK BK278.out) hb)
               have n12_ := Aside0.mk (zb (g := gb311) (o := .cells #[.int .i64 0, .slice none 0 0] 26 (0, 0)) (sqK BK311.out) hb)
               have n13_ := Aside0.mk (ze sqB hb)
               clear HO_263001 HO_268001 HO_273001 HO_279001 HO301 BK245 BK246 BK262 BK267 BK272 BK278 BK311 HB; have HO_263001 := n0_; have HO_268001 := n1_; have HO_273001 := n2_; have HO_279001 := n3_; have HO301 := n4_; have HO305 := n5_; have BK245 := n6_; have BK246 := n7_; have BK262 := n8_; have BK267 := n9_; have BK272 := n10_; have BK278 := n11_; have BK311 := n12_; have HB := n13_; clear n0_ n1_ n2_ n3_ n4_ n5_ n6_ n7_ n8_ n9_ n10_ n11_ n12_ n13_; (try clear hb); (try clear hb2); (try clear hk); (try clear hi); (try clear ho0)
               obtain ⟨Ao179, co179, eo179⟩ := Kd.zX HO301.out
               (first | subst eo179 | (injection eo179 with f1_ f2_ f3_; have f4_ := f1_.symm; have f5_ := f3_.symm; clear f1_ f2_ f3_; subst f4_; subst f5_))
               obtain ⟨Ao180, co180, eo180⟩ := Kd.zX HO305.out
               (first | subst eo180 | (injection eo180 with f1_ f2_ f3_; have f4_ := f1_.symm; have f5_ := f3_.symm; clear f1_ f2_ f3_; subst f4_; subst f5_))
               refine hK.out _ _ ⟨(za BK245.out 0).trans rfl, (za BK245.out 1).trans rfl, (za BK246.out 0).trans rfl, (za BK246.out 1).trans rfl⟩ (fun hHeld => ?_)
               clear hK K
               refine qh (a' := ?_) ?_ ?_
               rotate_left
               ·show Act.put _ (some 98) _ = _; simp only [Act.put, List.setIfInBounds_toArray, List.set_cons_zero, List.set_cons_succ, zi, zj]; rfl
               refine qW (i := 4) (N := some 99) #[true, true, true, true, true, false, false, false, true, false, false] rfl rfl (qp HT_.out (by kernel_rfl)) (by decide) (fun K hK => ?_)
               refine qP Try.func27 (by kernel_rfl) rfl #[.agg #[.int .i64 t298, .slice Ao179 t299.length co179], .agg #[.int .i64 t302, .slice Ao180 t303.length co180]] (by rfl) rfl rfl sqM ?_
               with_reducible refine (zg.calls kj107 t298 _ _ t299 t302 _ _ t303 t306 t307 t310 _ ?side1 ?side2 ?side3 ?side4 A164.out).mono ?_
               (case side1 => exact sqC (Kd.zq HO301.out).2.2)
               (case side2 => exact (Kd.zq HO301.out).2.1)
               (case side3 => exact sqC (Kd.zq HO305.out).2.2)
               (case side4 => exact (Kd.zq HO305.out).2.1)
               rintro e w181 ⟨v308, rfl, ho0, hb⟩
               refine ⟨_, rfl, ?_⟩
               have n0_ := Aside0.mk (Kd.zw (sqR HO_263001.out) (Kd.zI ho0) hb)
               have n1_ := Aside0.mk (Kd.zw (sqR HO_268001.out) (Kd.zI ho0) hb)
               have n2_ := Aside0.mk (Kd.zw (sqR HO_273001.out) (Kd.zI ho0) hb)
               have n3_ := Aside0.mk (Kd.zw (sqR HO_279001.out) (Kd.zI ho0) hb)
               have n4_ := Aside0.mk (Kd.zw (sqR HO301.out) (Kd.zI ho0) hb)
               have n5_ := Aside0.mk (Kd.zw (sqR HO305.out) (Kd.zI ho0) hb)
               have n6_ := Aside0.mk (Kd.qd (Kd.zH (Kd.zH (Kd.zH (Kd.zH (Kd.zH (Kd.zH ho0 (Kd.qc (sqR HO_263001.out))) (Kd.qc (sqR HO_268001.out))) (Kd.qc (sqR HO_273001.out))) (Kd.qc (sqR HO_279001.out))) (Kd.qc (sqR HO301.out))) (Kd.qc (sqR HO305.out))) (zA sqB))
               have n7_ := Aside0.mk (zb (g := gb245) (o := .cells #[.int .i64 a0_0, .slice A0_1 l0_1.length c0_1] 24 (0, 0)) (sqK BK245.out) hb)
               have n8_ := Aside0.mk (zb (g := gb246) (o := .cells #[.int .i64 a1_0, .slice A1_1 l1_1.length c1_1] 24 (0, 0)) (sqK BK246.out) hb)
               have n9_ := Aside0.mk (zb (g := gb262) (o := .cells #[.int .i64 t257, .slice Ao42 t258.length co42] 26 (0, 0)) (sqK BK262.out) hb)
               have n10_ := Aside0.mk (zb (g := gb267) (o := .cells #[.int .i64 t263, .slice Ao52 t291.length co52] 26 (0, 0)) (sqK BK267.out) hb)
               have n11_ := Aside0.mk (zb (g := gb272) (o := .cells #[.int .i64 t268, .slice Ao62 t293.length co62] 26 (0, 0)) (sqK BK272.out) hb)
               have n12_ := Aside0.mk (zb (g := gb278) (o := .cells #[.int .i64 t273, .slice Ao72 t274.length co72] 26 (0, 0)) (sqK BK278.out) hb)
               have n13_ := Aside0.mk (zb (g := gb311) (o := .cells #[.int .i64 0, .slice none 0 0] 26 (0, 0)) (sqK BK311.out) hb)
               have n14_ := Aside0.mk (ze sqB hb)
               clear HO_263001 HO_268001 HO_273001 HO_279001 HO301 HO305 BK245 BK246 BK262 BK267 BK272 BK278 BK311 HB; have HO_263001 := n0_; have HO_268001 := n1_; have HO_273001 := n2_; have HO_279001 := n3_; have HO301 := n4_; have HO305 := n5_; have HO309 := n6_; have BK245 := n7_; have BK246 := n8_; have BK262 := n9_; have BK267 := n10_; have BK272 := n11_; have BK278 := n12_; have BK311 := n13_; have HB := n14_; clear n0_ n1_ n2_ n3_ n4_ n5_ n6_ n7_ n8_ n9_ n10_ n11_ n12_ n13_ n14_; (try clear hb); (try clear hb2); (try clear hk); (try clear hi); (try clear ho0)
               refine hK.out _ _ ⟨(za BK245.out 0).trans rfl, (za BK245.out 1).trans rfl, (za BK246.out 0).trans rfl, (za BK246.out 1).trans rfl⟩ (fun hHeld => ?_)
               clear hK K
               refine qh (a' := ?_) ?_ ?_
               rotate_left
               ·show Act.put _ (some 99) _ = _; simp only [Act.put, List.setIfInBounds_toArray, List.set_cons_zero, List.set_cons_succ, zi, zj]; rfl
               refine zx (i := 5) (N := some 94) (v := ?_) (a' := ?_) #[true, true, true, true, true, true, false, false, true, false, false] rfl rfl (zp HT_.out (by kernel_rfl)) (fun _ _ _ h => h) (Or.inl ⟨by rfl, ?_⟩) ?_ ?_
               rotate_left
               ·intro w'; go_simp; with_reducible rfl
               rotate_left
               ·simp only [Act.put, List.setIfInBounds_toArray, List.set_cons_zero, List.set_cons_succ, zi, zj]; rfl
               refine zx (i := 6) (N := some 100) (v := ?_) (a' := ?_) #[true, true, true, true, true, true, true, false, true, false, false] rfl rfl (zp HT_.out (by kernel_rfl)) (fun _ _ _ h => h) (Or.inl ⟨by rfl, ?_⟩) ?_ ?_
               rotate_left
               ·intro w'; go_simp; with_reducible rfl
               rotate_left
               ·simp only [Act.put, List.setIfInBounds_toArray, List.set_cons_zero, List.set_cons_succ, zi, zj]; rfl
               refine zx (i := 7) (N := some 101) (v := ?_) (a' := ?_) #[true, true, true, true, true, true, true, true, true, false, false] rfl rfl (zp HT_.out (by kernel_rfl)) (fun _ _ _ h => h) (Or.inl ⟨by rfl, ?_⟩) ?_ ?_
               rotate_left
               ·intro w'; go_simp; with_reducible rfl
               rotate_left
               ·simp only [Act.put, List.setIfInBounds_toArray, List.set_cons_zero, List.set_cons_succ, zi, zj]; rfl
               exact qh (by simp only [ja, Act.put, List.setIfInBounds_toArray, List.set_cons_zero, List.set_cons_succ]) (hCont (.slice Ao179 t299.length co179, .slice Ao180 t303.length co180, v308, gb311) _ ⟨hHeld, (by refine sqR ?_; exact Kd.zo HO301.out (fun _ hk => ⟨hk.1.2, ⟨hk.2, ⟨hk.1.1.1.1.1.2, ⟨hk.1.1.1.1.2, ⟨hk.1.1.1.2, hk.1.1.2⟩⟩⟩⟩⟩)), (by refine sqR ?_; exact Kd.zo HO305.out (fun _ hk => ⟨hk.1.2, ⟨hk.2, ⟨hk.1.1.1.1.1.2, ⟨hk.1.1.1.1.2, ⟨hk.1.1.1.2, hk.1.1.2⟩⟩⟩⟩⟩)), (by refine sqR ?_; exact Kd.zo HO309.out (fun _ hk => ⟨hk.1.2, ⟨hk.2, ⟨hk.1.1.1.1.1.2, ⟨hk.1.1.1.1.2, ⟨hk.1.1.1.2, hk.1.1.2⟩⟩⟩⟩⟩)), (by refine sqR ?_; exact Kd.zo HO_263001.out (fun _ hk => ⟨hk.1.1.2, ⟨hk.1.2, ⟨hk.2, ⟨hk.1.1.1.1, ⟨hk.1.1.1.2.1, hk.1.1.1.2.2⟩⟩⟩⟩⟩)), (by refine sqR ?_; exact Kd.zo HO_268001.out (fun _ hk => ⟨hk.1.1.2, ⟨hk.1.2, ⟨hk.2, ⟨hk.1.1.1.1, ⟨hk.1.1.1.2.1, hk.1.1.1.2.2⟩⟩⟩⟩⟩)), (by refine sqR ?_; exact Kd.zo HO_273001.out (fun _ hk => ⟨hk.1.1.2, ⟨hk.1.2, ⟨hk.2, ⟨hk.1.1.1.1, ⟨hk.1.1.1.2.1, hk.1.1.1.2.2⟩⟩⟩⟩⟩)), (by refine sqR ?_; exact Kd.zo HO_279001.out (fun _ hk => ⟨hk.1.1.2, ⟨hk.1.2, ⟨hk.2, ⟨hk.1.1.1.1, ⟨hk.1.1.1.2.1, hk.1.1.1.2.2⟩⟩⟩⟩⟩)), (sqK BK245.out), (sqK BK246.out), (sqK BK262.out), (sqK BK267.out), (sqK BK272.out), (sqK BK278.out), (sqK BK311.out), GW311.out, GE311.out, NB245_311.out, NB311_245.out, NB246_311.out, NB311_246.out, NB262_311.out, NB311_262.out, NB267_311.out, NB311_267.out, NB272_311.out, NB311_272.out, NB278_311.out, NB311_278.out, sqB⟩)
             rintro ⟨v300, v304, v308, gb311⟩ w182 ⟨hS_, h0_, h1_, h2_, h3_, h4_, h5_, h6_, h7_, h8_, h9_, h10_, h11_, h12_, h13_, h14_, h15_, h16_, h17_, h18_, h19_, h20_, h21_, h22_, h23_, h24_, h25_, h26_, h27_, h28_⟩
             have n0_ : Aside0 (Kd.R (Kd.int .i64) 3 w182 w.heap.size (fun k_ => some k_ ≠ (v304 : Value).ownBlock ∧ some k_ ≠ (v308 : Value).ownBlock ∧ some k_ ≠ (.slice Ao42 t258.length co42 : Value).ownBlock ∧ some k_ ≠ (.slice Ao52 t291.length co52 : Value).ownBlock ∧ some k_ ≠ (.slice Ao62 t293.length co62 : Value).ownBlock ∧ some k_ ≠ (.slice Ao72 t274.length co72 : Value).ownBlock) v300 t299) := ⟨h0_⟩
             have n1_ : Aside0 (Kd.R (Kd.int .i64) 3 w182 w.heap.size (fun k_ => some k_ ≠ (v300 : Value).ownBlock ∧ some k_ ≠ (v308 : Value).ownBlock ∧ some k_ ≠ (.slice Ao42 t258.length co42 : Value).ownBlock ∧ some k_ ≠ (.slice Ao52 t291.length co52 : Value).ownBlock ∧ some k_ ≠ (.slice Ao62 t293.length co62 : Value).ownBlock ∧ some k_ ≠ (.slice Ao72 t274.length co72 : Value).ownBlock) v304 t303) := ⟨h1_⟩
             have n2_ : Aside0 (Kd.R (Kd.int .i64) 3 w182 w.heap.size (fun k_ => some k_ ≠ (v300 : Value).ownBlock ∧ some k_ ≠ (v304 : Value).ownBlock ∧ some k_ ≠ (.slice Ao42 t258.length co42 : Value).ownBlock ∧ some k_ ≠ (.slice Ao52 t291.length co52 : Value).ownBlock ∧ some k_ ≠ (.slice Ao62 t293.length co62 : Value).ownBlock ∧ some k_ ≠ (.slice Ao72 t274.length co72 : Value).ownBlock) v308 t307) := ⟨h2_⟩
             have n3_ : Aside0 (Kd.R (Kd.int .i64) 3 w182 w.heap.size (fun k_ => some k_ ≠ (v300 : Value).ownBlock ∧ some k_ ≠ (v304 : Value).ownBlock ∧ some k_ ≠ (v308 : Value).ownBlock ∧ some k_ ≠ (.slice Ao52 t291.length co52 : Value).ownBlock ∧ some k_ ≠ (.slice Ao62 t293.length co62 : Value).ownBlock ∧ some k_ ≠ (.slice Ao72 t274.length co72 : Value).ownBlock) (.slice Ao42 t258.length co42) t258) := ⟨h3_⟩
             have n4_ : Aside0 (Kd.R (Kd.int .i64) 3 w182 w.heap.size (fun k_ => some k_ ≠ (v300 : Value).ownBlock ∧ some k_ ≠ (v304 : Value).ownBlock ∧ some k_ ≠ (v308 : Value).ownBlock ∧ some k_ ≠ (.slice Ao42 t258.length co42 : Value).ownBlock ∧ some k_ ≠ (.slice Ao62 t293.length co62 : Value).ownBlock ∧ some k_ ≠ (.slice Ao72 t274.length co72 : Value).ownBlock) (.slice Ao52 t291.length co52) t291) := ⟨h4_⟩
             have n5_ : Aside0 (Kd.R (Kd.int .i64) 3 w182 w.heap.size (fun k_ => some k_ ≠ (v300 : Value).ownBlock ∧ some k_ ≠ (v304 : Value).ownBlock ∧ some k_ ≠ (v308 : Value).ownBlock ∧ some k_ ≠ (.slice Ao42 t258.length co42 : Value).ownBlock ∧ some k_ ≠ (.slice Ao52 t291.length co52 : Value).ownBlock ∧ some k_ ≠ (.slice Ao72 t274.length co72 : Value).ownBlock) (.slice Ao62 t293.length co62) t293) := ⟨h5_⟩
             have n6_ : Aside0 (Kd.R (Kd.int .i64) 3 w182 w.heap.size (fun k_ => some k_ ≠ (v300 : Value).ownBlock ∧ some k_ ≠ (v304 : Value).ownBlock ∧ some k_ ≠ (v308 : Value).ownBlock ∧ some k_ ≠ (.slice Ao42 t258.length co42 : Value).ownBlock ∧ some k_ ≠ (.slice Ao52 t291.length co52 : Value).ownBlock ∧ some k_ ≠ (.slice Ao62 t293.length co62 : Value).ownBlock) (.slice Ao72 t274.length co72) t296) := ⟨h6_⟩
             have n7_ : Aside0 (w182.heap[gb245]? = some (.cells #[.int .i64 a0_0, .slice A0_1 l0_1.length c0_1] 24 (0, 0))) := ⟨h7_⟩
             have n8_ : Aside0 (w182.heap[gb246]? = some (.cells #[.int .i64 a1_0, .slice A1_1 l1_1.length c1_1] 24 (0, 0))) := ⟨h8_⟩
             have n9_ : Aside0 (w182.heap[gb262]? = some (.cells #[.int .i64 t257, .slice Ao42 t258.length co42] 26 (0, 0))) := ⟨h9_⟩
             have n10_ : Aside0 (w182.heap[gb267]? = some (.cells #[.int .i64 t263, .slice Ao52 t291.length co52] 26 (0, 0))) := ⟨h10_⟩
             have n11_ : Aside0 (w182.heap[gb272]? = some (.cells #[.int .i64 t268, .slice Ao62 t293.length co62] 26 (0, 0))) := ⟨h11_⟩
             have n12_ : Aside0 (w182.heap[gb278]? = some (.cells #[.int .i64 t273, .slice Ao72 t274.length co72] 26 (0, 0))) := ⟨h12_⟩
             have n13_ : Aside0 (w182.heap[gb311]? = some (.cells #[.int .i64 0, .slice none 0 0] 26 (0, 0))) := ⟨h13_⟩
             have n14_ : Aside0 (w.heap.size ≤ gb311) := ⟨h14_⟩
             have n15_ : Aside0 (w.heap.size ≤ gb311) := ⟨h15_⟩
             have n16_ : Aside0 (gb245 ≠ gb311) := ⟨h16_⟩
             have n17_ : Aside0 (gb311 ≠ gb245) := ⟨h17_⟩
             have n18_ : Aside0 (gb246 ≠ gb311) := ⟨h18_⟩
             have n19_ : Aside0 (gb311 ≠ gb246) := ⟨h19_⟩
             have n20_ : Aside0 (gb262 ≠ gb311) := ⟨h20_⟩
             have n21_ : Aside0 (gb311 ≠ gb262) := ⟨h21_⟩
             have n22_ : Aside0 (gb267 ≠ gb311) := ⟨h22_⟩
             have n23_ : Aside0 (gb311 ≠ gb267) := ⟨h23_⟩
             have n24_ : Aside0 (gb272 ≠ gb311) := ⟨h24_⟩
             have n25_ : Aside0 (gb311 ≠ gb272) := ⟨h25_⟩
             have n26_ : Aside0 (gb278 ≠ gb311) := ⟨h26_⟩
             have n27_ : Aside0 (gb311 ≠ gb278) := ⟨h27_⟩
             have n28_ : Aside0 (Below w.heap.size w w182) := ⟨h28_⟩
             clear HO_263001 HO_268001 HO_273001 HO_279001 BK245 BK246 BK262 BK267 BK272 BK278 HB h0_ h1_ h2_ h3_ h4_ h5_ h6_ h7_ h8_ h9_ h10_ h11_ h12_ h13_ h14_ h15_ h16_ h17_ h18_ h19_ h20_ h21_ h22_ h23_ h24_ h25_ h26_ h27_ h28_; have HO301 := n0_; have HO305 := n1_; have HO309 := n2_; have HO_263001 := n3_; have HO_268001 := n4_; have HO_273001 := n5_; have HO_279001 := n6_; have BK245 := n7_; have BK246 := n8_; have BK262 := n9_; have BK267 := n10_; have BK272 := n11_; have BK278 := n12_; have BK311 := n13_; have GW311 := n14_; have GE311 := n15_; have NB245_311 := n16_; have NB311_245 := n17_; have NB246_311 := n18_; have NB311_246 := n19_; have NB262_311 := n20_; have NB311_262 := n21_; have NB267_311 := n22_; have NB311_267 := n23_; have NB272_311 := n24_; have NB311_272 := n25_; have NB278_311 := n26_; have NB311_278 := n27_; have HB := n28_; clear n0_ n1_ n2_ n3_ n4_ n5_ n6_ n7_ n8_ n9_ n10_ n11_ n12_ n13_ n14_ n15_ n16_ n17_ n18_ n19_ n20_ n21_ n22_ n23_ n24_ n25_ n26_ n27_ n28_
             have hHeld : w182.cell? ⟨gb245, 0, none⟩ = some (.int .i64 a0_0) ∧ w182.cell? ⟨gb245, 1, none⟩ = some (.slice A0_1 l0_1.length c0_1) ∧ w182.cell? ⟨gb246, 0, none⟩ = some (.int .i64 a1_0) ∧ w182.cell? ⟨gb246, 1, none⟩ = some (.slice A1_1 l1_1.length c1_1) := hS_
             obtain ⟨Ao184, co184, eo184⟩ := Kd.zX HO309.out
             (first | subst eo184 | (injection eo184 with f1_ f2_ f3_; have f4_ := f1_.symm; have f5_ := f3_.symm; clear f1_ f2_ f3_; subst f4_; subst f5_))
             refine qh (a' := ?_) ?_ ?_
             rotate_left
             ·simp only [ja, Act.put, List.setIfInBounds_toArray, List.set_cons_zero, List.set_cons_succ]
              rfl
             refine qW (i := 9) (N := none) #[true, true, true, true, true, true, true, true, true, true, false] rfl rfl (qp HT_.out (by kernel_rfl)) (by decide) (fun K hK => ?_)
             have hs183 : w182.cell? ⟨gb311, 0, none⟩ = some (.int .i64 0) := (za BK311.out 0).trans rfl
             have hfs183 := zd BK311.out 0
             have hns183_0 := NB245_311.out
             have hns183_1 := NB246_311.out
             have hns183_2 := NB262_311.out
             have hns183_3 := NB267_311.out
             have hns183_4 := NB272_311.out
             have hns183_5 := NB278_311.out
             have hms183_0 := NB311_245.out
             have hms183_1 := NB311_246.out
             have hms183_2 := NB311_262.out
             have hms183_3 := NB311_267.out
             have hms183_4 := NB311_272.out
             have hms183_5 := NB311_278.out
             have hs185 : w182.cell? ⟨gb311, 1, none⟩ = some (.slice none 0 0) := (za BK311.out 1).trans rfl
             have hfs185 := zd BK311.out 1
             have hns185_0 := NB245_311.out
             have hns185_1 := NB246_311.out
             have hns185_2 := NB262_311.out
             have hns185_3 := NB267_311.out
             have hns185_4 := NB272_311.out
             have hns185_5 := NB278_311.out
             have hms185_0 := NB311_245.out
             have hms185_1 := NB311_246.out
             have hms185_2 := NB311_262.out
             have hms185_3 := NB311_267.out
             have hms185_4 := NB311_272.out
             have hms185_5 := NB311_278.out
             refine Z2 (w1 := ?_) (by rfl) rfl ?_ ?_
             rotate_left
             ·go_simp
              rfl
             refine hK.out _ _ ⟨((cell_far (p := ⟨gb311, _, none⟩) NB245_311.out _).trans (((cell_far (p := ⟨gb311, _, none⟩) NB245_311.out _).trans (hHeld.1)))), ((cell_far (p := ⟨gb311, _, none⟩) NB245_311.out _).trans (((cell_far (p := ⟨gb311, _, none⟩) NB245_311.out _).trans (hHeld.2.1)))), ((cell_far (p := ⟨gb311, _, none⟩) NB246_311.out _).trans (((cell_far (p := ⟨gb311, _, none⟩) NB246_311.out _).trans (hHeld.2.2.1)))), ((cell_far (p := ⟨gb311, _, none⟩) NB246_311.out _).trans (((cell_far (p := ⟨gb311, _, none⟩) NB246_311.out _).trans (hHeld.2.2.2))))⟩ (fun hHeld => ?_)
             clear hK K
             refine zx (i := 10) (N := some 16) (v := ?_) (a' := ?_) #[true, true, true, true, true, true, true, true, true, true, true] rfl rfl (zp HT_.out (by kernel_rfl)) (fun _ _ _ h => h) (Or.inl ⟨by rfl, ?_⟩) ?_ ?_
             rotate_left
             ·intro w'; go_simp; with_reducible rfl
             rotate_left
             ·simp only [Act.put, List.setIfInBounds_toArray, List.set_cons_zero, List.set_cons_succ, zi, zj]; rfl
             refine ji (qO HT_.out (by kernel_rfl)) ?_
             go_upto_region 32 with (fail)
             go_cut [110] (fun v110 wc => ∃ (kq : Nat) (x110_164 : Bool), v110 = .bool x110_164 ∧ Aside0 (zc.j2 kq t295 x110_164 t273 t296 = some r) ∧ Aside0 (kq ≤ kj107) ∧ Aside0 (Kd.R (Kd.int .i64) 3 wc w.heap.size (fun k_ => some k_ ≠ ((.slice Ao52 t291.length co52) : Value).ownBlock ∧ some k_ ≠ ((.slice Ao62 t293.length co62) : Value).ownBlock ∧ some k_ ≠ ((.slice Ao72 t274.length co72) : Value).ownBlock ∧ some k_ ≠ ((.slice Ao184 t307.length co184) : Value).ownBlock) (.slice Ao42 t258.length co42) t258) ∧ Aside0 (Kd.R (Kd.int .i64) 3 wc w.heap.size (fun k_ => some k_ ≠ ((.slice Ao42 t258.length co42) : Value).ownBlock ∧ some k_ ≠ ((.slice Ao62 t293.length co62) : Value).ownBlock ∧ some k_ ≠ ((.slice Ao72 t274.length co72) : Value).ownBlock ∧ some k_ ≠ ((.slice Ao184 t307.length co184) : Value).ownBlock) (.slice Ao52 t291.length co52) t291) ∧ Aside0 (Kd.R (Kd.int .i64) 3 wc w.heap.size (fun k_ => some k_ ≠ ((.slice Ao42 t258.length co42) : Value).ownBlock ∧ some k_ ≠ ((.slice Ao52 t291.length co52) : Value).ownBlock ∧ some k_ ≠ ((.slice Ao72 t274.length co72) : Value).ownBlock ∧ some k_ ≠ ((.slice Ao184 t307.length co184) : Value).ownBlock) (.slice Ao62 t293.length co62) t293) ∧ Aside0 (Kd.R (Kd.int .i64) 3 wc w.heap.size (fun k_ => some k_ ≠ ((.slice Ao42 t258.length co42) : Value).ownBlock ∧ some k_ ≠ ((.slice Ao52 t291.length co52) : Value).ownBlock ∧ some k_ ≠ ((.slice Ao62 t293.length co62) : Value).ownBlock ∧ some k_ ≠ ((.slice Ao184 t307.length co184) : Value).ownBlock) (.slice Ao72 t274.length co72) t296) ∧ Aside0 (Kd.R (Kd.int .i64) 3 wc w.heap.size (fun k_ => some k_ ≠ ((.slice Ao42 t258.length co42) : Value).ownBlock ∧ some k_ ≠ ((.slice Ao52 t291.length co52) : Value).ownBlock ∧ some k_ ≠ ((.slice Ao62 t293.length co62) : Value).ownBlock ∧ some k_ ≠ ((.slice Ao72 t274.length co72) : Value).ownBlock) (.slice Ao184 t307.length co184) t307) ∧ Aside0 (wc.heap[gb245]? = some (.cells #[.int .i64 a0_0, (.slice A0_1 l0_1.length c0_1)] 24 (0, 0))) ∧ Aside0 (wc.heap[gb246]? = some (.cells #[.int .i64 a1_0, (.slice A1_1 l1_1.length c1_1)] 24 (0, 0))) ∧ Aside0 (wc.heap[gb262]? = some (.cells #[.int .i64 t257, (.slice Ao42 t258.length co42)] 26 (0, 0))) ∧ Aside0 (wc.heap[gb267]? = some (.cells #[.int .i64 t263, (.slice Ao52 t291.length co52)] 26 (0, 0))) ∧ Aside0 (wc.heap[gb272]? = some (.cells #[.int .i64 t268, (.slice Ao62 t293.length co62)] 26 (0, 0))) ∧ Aside0 (wc.heap[gb278]? = some (.cells #[.int .i64 t273, (.slice Ao72 t274.length co72)] 26 (0, 0))) ∧ Aside0 (wc.heap[gb311]? = some (.cells #[.int .i64 t306, (.slice Ao184 t307.length co184)] 26 (0, 0))) ∧ Aside0 (Below w.heap.size w wc))
             case first =>
              have H := HC165.out
              clear HC165
              replace H := Option.bind_eq_some_iff.mp H
              obtain ⟨t312, A1860, H⟩ := H
              replace H : (if t312 = true then (zc.j2 kj107 t295 (t310 != t261) t273 t296) else (zc.j2 kj107 t295 true t273 t296)) = some r := H
              have A186 := Aside0.mk A1860
              clear A1860
              by_cases c187 : t312 = true
              ·subst c187
               have H1 : (zc.j2 kj107 t295 (t310 != t261) t273 t296) = some r := by rw [if_pos rfl] at H; exact H
               clear H
               have H := H1
               clear H1
               have H' := Aside0.mk H
               clear H
               have hnb188 := NB311_245.out
               have hnc188 := NB245_311.out
               have hnb189 := NB311_246.out
               have hnc189 := NB246_311.out
               have hnb190 := NB311_262.out
               have hnc190 := NB262_311.out
               have hnb191 := NB311_267.out
               have hnc191 := NB267_311.out
               have hnb192 := NB311_272.out
               have hnc192 := NB272_311.out
               have hnb193 := NB311_278.out
               have hnc193 := NB278_311.out
               have hcz194_0 : w182.cell? ⟨gb311, 0, none⟩ = some (.int .i64 0) := (za BK311.out 0).trans rfl
               have hcz194_1 : w182.cell? ⟨gb311, 1, none⟩ = some (.slice none 0 0) := (za BK311.out 1).trans rfl
               have hfz194_0 := zd BK311.out 0; have hfz194_1 := zd BK311.out 1
               have hnb195 := NB262_245.out
               have hnc195 := NB245_262.out
               have hnb196 := NB262_246.out
               have hnc196 := NB246_262.out
               have hnb197 := NB262_267.out
               have hnc197 := NB267_262.out
               have hnb198 := NB262_272.out
               have hnc198 := NB272_262.out
               have hnb199 := NB262_278.out
               have hnc199 := NB278_262.out
               have hcz200_0 : w182.cell? ⟨gb262, 0, none⟩ = some (.int .i64 t257) := (za BK262.out 0).trans rfl
               have hcz200_1 : w182.cell? ⟨gb262, 1, none⟩ = some (.slice Ao42 t258.length co42) := (za BK262.out 1).trans rfl
               have hfz200_0 := zd BK262.out 0; have hfz200_1 := zd BK262.out 1
               go_wp2_with (first | ((with_reducible refine zn (f := 15) rfl ?_); refine zN (some 104) rfl rfl Try.func15 (by kernel_rfl) rfl #[.agg #[.int .i64 t306, .slice Ao184 t307.length co184], .agg #[.int .i64 t257, .slice Ao42 t258.length co42]] rfl sqM ?_; (with_reducible refine (zr.calls kj107 t306 _ _ t307 t257 _ _ t258 true _ ?side1 ?side2 ?side3 ?side4 A186.out).mono ?_); (case side1 => refine (Kd.zq (e := 3) (base := w.heap.size) (ok := fun k_ => (some k_ ≠ (v300 : Value).ownBlock ∧ (some k_ ≠ (v304 : Value).ownBlock ∧ (some k_ ≠ (.slice Ao42 t258.length co42 : Value).ownBlock ∧ (some k_ ≠ (.slice Ao52 t291.length co52 : Value).ownBlock ∧ (some k_ ≠ (.slice Ao62 t293.length co62 : Value).ownBlock ∧ some k_ ≠ (.slice Ao72 t274.length co72 : Value).ownBlock)))))) (n := t307.length) (c := co184) ?_).2.2; exact (by refine sqR ?_; exact (Kd.zo (Kd.zB (p := ⟨gb311, 1, none⟩) (Kd.zB (p := ⟨gb311, 0, none⟩) (Kd.zJ HO309.out BK311.out (by decide)) (fun _ hk => hk.2) (.int .i64 t306)) (fun _ hk => hk.2) (.slice Ao184 t307.length co184)) (fun _ h_ => h_.1)))); (case side2 => exact (Kd.zq HO309.out).2.1); (case side3 => refine (Kd.zq (e := 3) (base := w.heap.size) (ok := fun k_ => (some k_ ≠ (v300 : Value).ownBlock ∧ (some k_ ≠ (v304 : Value).ownBlock ∧ (some k_ ≠ (.slice Ao184 t307.length co184 : Value).ownBlock ∧ (some k_ ≠ (.slice Ao52 t291.length co52 : Value).ownBlock ∧ (some k_ ≠ (.slice Ao62 t293.length co62 : Value).ownBlock ∧ some k_ ≠ (.slice Ao72 t274.length co72 : Value).ownBlock)))))) (n := t258.length) (c := co42) ?_).2.2; exact (by refine sqR ?_; exact (Kd.zo (Kd.zB (p := ⟨gb311, 1, none⟩) (Kd.zB (p := ⟨gb311, 0, none⟩) (Kd.zJ HO_263001.out BK311.out (by decide)) (fun _ hk => hk.2) (.int .i64 t306)) (fun _ hk => hk.2) (.slice Ao184 t307.length co184)) (fun _ h_ => h_.1)))); (case side4 => exact (Kd.zq HO_263001.out).2.1); rintro e w201 ⟨rfl, hb⟩; refine ⟨_, rfl, ?_⟩; have n0_ := Aside0.mk (Kd.zu (by refine sqR ?_; exact (Kd.zo (Kd.zB (p := ⟨gb311, 1, none⟩) (Kd.zB (p := ⟨gb311, 0, none⟩) (Kd.zJ HO_263001.out BK311.out (by decide)) (fun _ hk => hk.2) (.int .i64 t306)) (fun _ hk => hk.2) (.slice Ao184 t307.length co184)) (fun _ h_ => h_.1))) hb); have n1_ := Aside0.mk (Kd.zu (by refine sqR ?_; exact (Kd.zo (Kd.zB (p := ⟨gb311, 1, none⟩) (Kd.zB (p := ⟨gb311, 0, none⟩) (Kd.zJ HO_268001.out BK311.out (by decide)) (fun _ hk => hk.2) (.int .i64 t306)) (fun _ hk => hk.2) (.slice Ao184 t307.length co184)) (fun _ h_ => h_.1))) hb); have n2_ := Aside0.mk (Kd.zu (by refine sqR ?_; exact (Kd.zo (Kd.zB (p := ⟨gb311, 1, none⟩) (Kd.zB (p := ⟨gb311, 0, none⟩) (Kd.zJ HO_273001.out BK311.out (by decide)) (fun _ hk => hk.2) (.int .i64 t306)) (fun _ hk => hk.2) (.slice Ao184 t307.length co184)) (fun _ h_ => h_.1))) hb); have n3_ := Aside0.mk (Kd.zu (by refine sqR ?_; exact (Kd.zo (Kd.zB (p := ⟨gb311, 1, none⟩) (Kd.zB (p := ⟨gb311, 0, none⟩) (Kd.zJ HO_279001.out BK311.out (by decide)) (fun _ hk => hk.2) (.int .i64 t306)) (fun _ hk => hk.2) (.slice Ao184 t307.length co184)) (fun _ h_ => h_.1))) hb); have n4_ := Aside0.mk (Kd.zu (by refine sqR ?_; exact (Kd.zo (Kd.zB (p := ⟨gb311, 1, none⟩) (Kd.zB (p := ⟨gb311, 0, none⟩) (Kd.zJ HO301.out BK311.out (by decide)) (fun _ hk => hk.2) (.int .i64 t306)) (fun _ hk => hk.2) (.slice Ao184 t307.length co184)) (fun _ h_ => h_.1))) hb); have n5_ := Aside0.mk (Kd.zu (by refine sqR ?_; exact (Kd.zo (Kd.zB (p := ⟨gb311, 1, none⟩) (Kd.zB (p := ⟨gb311, 0, none⟩) (Kd.zJ HO305.out BK311.out (by decide)) (fun _ hk => hk.2) (.int .i64 t306)) (fun _ hk => hk.2) (.slice Ao184 t307.length co184)) (fun _ h_ => h_.1))) hb); have n6_ := Aside0.mk (Kd.zu (by refine sqR ?_; exact (Kd.zo (Kd.zB (p := ⟨gb311, 1, none⟩) (Kd.zB (p := ⟨gb311, 0, none⟩) (Kd.zJ HO309.out BK311.out (by decide)) (fun _ hk => hk.2) (.int .i64 t306)) (fun _ hk => hk.2) (.slice Ao184 t307.length co184)) (fun _ h_ => h_.1))) hb); have n7_ := Aside0.mk (zb (g := gb245) (o := .cells #[.int .i64 a0_0, .slice A0_1 l0_1.length c0_1] 24 (0, 0)) (by refine sqK ?_; refine zD ?_ NB245_311.out _; refine sqK ?_; refine zD ?_ NB245_311.out _; refine sqK ?_; exact BK245.out) hb); have n8_ := Aside0.mk (zb (g := gb246) (o := .cells #[.int .i64 a1_0, .slice A1_1 l1_1.length c1_1] 24 (0, 0)) (by refine sqK ?_; refine zD ?_ NB246_311.out _; refine sqK ?_; refine zD ?_ NB246_311.out _; refine sqK ?_; exact BK246.out) hb); have n9_ := Aside0.mk (zb (g := gb262) (o := .cells #[.int .i64 t257, .slice Ao42 t258.length co42] 26 (0, 0)) (by refine sqK ?_; refine zD ?_ NB262_311.out _; refine sqK ?_; refine zD ?_ NB262_311.out _; refine sqK ?_; exact BK262.out) hb); have n10_ := Aside0.mk (zb (g := gb267) (o := .cells #[.int .i64 t263, .slice Ao52 t291.length co52] 26 (0, 0)) (by refine sqK ?_; refine zD ?_ NB267_311.out _; refine sqK ?_; refine zD ?_ NB267_311.out _; refine sqK ?_; exact BK267.out) hb); have n11_ := Aside0.mk (zb (g := gb272) (o := .cells #[.int .i64 t268, .slice Ao62 t293.length co62] 26 (0, 0)) (by refine sqK ?_; refine zD ?_ NB272_311.out _; refine sqK ?_; refine zD ?_ NB272_311.out _; refine sqK ?_; exact BK272.out) hb); have n12_ := Aside0.mk (zb (g := gb278) (o := .cells #[.int .i64 t273, .slice Ao72 t274.length co72] 26 (0, 0)) (by refine sqK ?_; refine zD ?_ NB278_311.out _; refine sqK ?_; refine zD ?_ NB278_311.out _; refine sqK ?_; exact BK278.out) hb); have n13_ := Aside0.mk (zb (g := gb311) (o := .cells #[.int .i64 t306, .slice Ao184 t307.length co184] 26 (0, 0)) (by refine sqK ?_; refine zR (cs := #[.int .i64 t306, .slice none 0 0]) ?_ 1 _ rfl; refine sqK ?_; refine zR (cs := #[.int .i64 0, .slice none 0 0]) ?_ 0 _ rfl; refine sqK ?_; exact BK311.out) hb); have n14_ := Aside0.mk (ze sqB hb); clear HO_263001; clear HO_268001; clear HO_273001; clear HO_279001; clear HO301; clear HO305; clear HO309; clear BK245; clear BK246; clear BK262; clear BK267; clear BK272; clear BK278; clear BK311; clear HB; have HO_263001 := n0_; have HO_268001 := n1_; have HO_273001 := n2_; have HO_279001 := n3_; have HO301 := n4_; have HO305 := n5_; have HO309 := n6_; have BK245 := n7_; have BK246 := n8_; have BK262 := n9_; have BK267 := n10_; have BK272 := n11_; have BK278 := n12_; have BK311 := n13_; have HB := n14_; clear n0_ n1_ n2_ n3_ n4_ n5_ n6_ n7_ n8_ n9_ n10_ n11_ n12_ n13_ n14_; (try clear hb); (try clear hb2); (try clear hk); (try clear hi)))
               go_meet
               case rel => exact ⟨_, ((t310 != t261)), (sqD), H', ⟨by have := HJ24.out; have := HJ107.out; first | omega | exact Nat.le_refl _⟩, ⟨by (try simp only [hl268001_107]); (try simp only [hl273001_107]); refine sqR ?_; exact Kd.zo HO_263001.out (fun _ hk => ⟨hk.2.2.2.1, ⟨hk.2.2.2.2.1, ⟨hk.2.2.2.2.2, hk.2.2.1⟩⟩⟩)⟩, ⟨by (try simp only [hl268001_107]); (try simp only [hl273001_107]); refine sqR ?_; exact Kd.zo HO_268001.out (fun _ hk => ⟨hk.2.2.2.1, ⟨hk.2.2.2.2.1, ⟨hk.2.2.2.2.2, hk.2.2.1⟩⟩⟩)⟩, ⟨by (try simp only [hl268001_107]); (try simp only [hl273001_107]); refine sqR ?_; exact Kd.zo HO_273001.out (fun _ hk => ⟨hk.2.2.2.1, ⟨hk.2.2.2.2.1, ⟨hk.2.2.2.2.2, hk.2.2.1⟩⟩⟩)⟩, ⟨by (try simp only [hl268001_107]); (try simp only [hl273001_107]); refine sqR ?_; exact Kd.zo HO_279001.out (fun _ hk => ⟨hk.2.2.2.1, ⟨hk.2.2.2.2.1, ⟨hk.2.2.2.2.2, hk.2.2.1⟩⟩⟩)⟩, ⟨by (try simp only [hl268001_107]); (try simp only [hl273001_107]); refine sqR ?_; exact Kd.zo HO309.out (fun _ hk => ⟨hk.2.2.1, ⟨hk.2.2.2.1, ⟨hk.2.2.2.2.1, hk.2.2.2.2.2⟩⟩⟩)⟩, ⟨by (try simp only [hl268001_107]); (try simp only [hl273001_107]); refine sqK ?_; exact BK245.out⟩, ⟨by (try simp only [hl268001_107]); (try simp only [hl273001_107]); refine sqK ?_; exact BK246.out⟩, ⟨by (try simp only [hl268001_107]); (try simp only [hl273001_107]); refine sqK ?_; exact BK262.out⟩, ⟨by (try simp only [hl268001_107]); (try simp only [hl273001_107]); refine sqK ?_; exact BK267.out⟩, ⟨by (try simp only [hl268001_107]); (try simp only [hl273001_107]); refine sqK ?_; exact BK272.out⟩, ⟨by (try simp only [hl268001_107]); (try simp only [hl273001_107]); refine sqK ?_; exact BK278.out⟩, ⟨by (try simp only [hl268001_107]); (try simp only [hl273001_107]); refine sqK ?_; exact BK311.out⟩, ⟨sqB⟩⟩
              ·replace c187 := Bool.eq_false_iff.mpr c187
               subst c187
               have H1 : (zc.j2 kj107 t295 true t273 t296) = some r := by rw [if_neg (show ¬ (false = true) by decide)] at H; exact H
               clear H
               have H := H1
               clear H1
               have H' := Aside0.mk H
               clear H
               have hnb202 := NB311_245.out
               have hnc202 := NB245_311.out
               have hnb203 := NB311_246.out
               have hnc203 := NB246_311.out
               have hnb204 := NB311_262.out
               have hnc204 := NB262_311.out
               have hnb205 := NB311_267.out
               have hnc205 := NB267_311.out
               have hnb206 := NB311_272.out
               have hnc206 := NB272_311.out
               have hnb207 := NB311_278.out
               have hnc207 := NB278_311.out
               have hcz208_0 : w182.cell? ⟨gb311, 0, none⟩ = some (.int .i64 0) := (za BK311.out 0).trans rfl
               have hcz208_1 : w182.cell? ⟨gb311, 1, none⟩ = some (.slice none 0 0) := (za BK311.out 1).trans rfl
               have hfz208_0 := zd BK311.out 0; have hfz208_1 := zd BK311.out 1
               have hnb209 := NB262_245.out
               have hnc209 := NB245_262.out
               have hnb210 := NB262_246.out
               have hnc210 := NB246_262.out
               have hnb211 := NB262_267.out
               have hnc211 := NB267_262.out
               have hnb212 := NB262_272.out
               have hnc212 := NB272_262.out
               have hnb213 := NB262_278.out
               have hnc213 := NB278_262.out
               have hcz214_0 : w182.cell? ⟨gb262, 0, none⟩ = some (.int .i64 t257) := (za BK262.out 0).trans rfl
               have hcz214_1 : w182.cell? ⟨gb262, 1, none⟩ = some (.slice Ao42 t258.length co42) := (za BK262.out 1).trans rfl
               have hfz214_0 := zd BK262.out 0; have hfz214_1 := zd BK262.out 1
               go_wp2_with (first | ((with_reducible refine zn (f := 15) rfl ?_); refine zN (some 104) rfl rfl Try.func15 (by kernel_rfl) rfl #[.agg #[.int .i64 t306, .slice Ao184 t307.length co184], .agg #[.int .i64 t257, .slice Ao42 t258.length co42]] rfl sqM ?_; (with_reducible refine (zr.calls kj107 t306 _ _ t307 t257 _ _ t258 false _ ?side1 ?side2 ?side3 ?side4 A186.out).mono ?_); (case side1 => refine (Kd.zq (e := 3) (base := w.heap.size) (ok := fun k_ => (some k_ ≠ (v300 : Value).ownBlock ∧ (some k_ ≠ (v304 : Value).ownBlock ∧ (some k_ ≠ (.slice Ao42 t258.length co42 : Value).ownBlock ∧ (some k_ ≠ (.slice Ao52 t291.length co52 : Value).ownBlock ∧ (some k_ ≠ (.slice Ao62 t293.length co62 : Value).ownBlock ∧ some k_ ≠ (.slice Ao72 t274.length co72 : Value).ownBlock)))))) (n := t307.length) (c := co184) ?_).2.2; exact (by refine sqR ?_; exact (Kd.zo (Kd.zB (p := ⟨gb311, 1, none⟩) (Kd.zB (p := ⟨gb311, 0, none⟩) (Kd.zJ HO309.out BK311.out (by decide)) (fun _ hk => hk.2) (.int .i64 t306)) (fun _ hk => hk.2) (.slice Ao184 t307.length co184)) (fun _ h_ => h_.1)))); (case side2 => exact (Kd.zq HO309.out).2.1); (case side3 => refine (Kd.zq (e := 3) (base := w.heap.size) (ok := fun k_ => (some k_ ≠ (v300 : Value).ownBlock ∧ (some k_ ≠ (v304 : Value).ownBlock ∧ (some k_ ≠ (.slice Ao184 t307.length co184 : Value).ownBlock ∧ (some k_ ≠ (.slice Ao52 t291.length co52 : Value).ownBlock ∧ (some k_ ≠ (.slice Ao62 t293.length co62 : Value).ownBlock ∧ some k_ ≠ (.slice Ao72 t274.length co72 : Value).ownBlock)))))) (n := t258.length) (c := co42) ?_).2.2; exact (by refine sqR ?_; exact (Kd.zo (Kd.zB (p := ⟨gb311, 1, none⟩) (Kd.zB (p := ⟨gb311, 0, none⟩) (Kd.zJ HO_263001.out BK311.out (by decide)) (fun _ hk => hk.2) (.int .i64 t306)) (fun _ hk => hk.2) (.slice Ao184 t307.length co184)) (fun _ h_ => h_.1)))); (case side4 => exact (Kd.zq HO_263001.out).2.1); rintro e w215 ⟨rfl, hb⟩; refine ⟨_, rfl, ?_⟩; have n0_ := Aside0.mk (Kd.zu (by refine sqR ?_; exact (Kd.zo (Kd.zB (p := ⟨gb311, 1, none⟩) (Kd.zB (p := ⟨gb311, 0, none⟩) (Kd.zJ HO_263001.out BK311.out (by decide)) (fun _ hk => hk.2) (.int .i64 t306)) (fun _ hk => hk.2) (.slice Ao184 t307.length co184)) (fun _ h_ => h_.1))) hb); have n1_ := Aside0.mk (Kd.zu (by refine sqR ?_; exact (Kd.zo (Kd.zB (p := ⟨gb311, 1, none⟩) (Kd.zB (p := ⟨gb311, 0, none⟩) (Kd.zJ HO_268001.out BK311.out (by decide)) (fun _ hk => hk.2) (.int .i64 t306)) (fun _ hk => hk.2) (.slice Ao184 t307.length co184)) (fun _ h_ => h_.1))) hb); have n2_ := Aside0.mk (Kd.zu (by refine sqR ?_; exact (Kd.zo (Kd.zB (p := ⟨gb311, 1, none⟩) (Kd.zB (p := ⟨gb311, 0, none⟩) (Kd.zJ HO_273001.out BK311.out (by decide)) (fun _ hk => hk.2) (.int .i64 t306)) (fun _ hk => hk.2) (.slice Ao184 t307.length co184)) (fun _ h_ => h_.1))) hb); have n3_ := Aside0.mk (Kd.zu (by refine sqR ?_; exact (Kd.zo (Kd.zB (p := ⟨gb311, 1, none⟩) (Kd.zB (p := ⟨gb311, 0, none⟩) (Kd.zJ HO_279001.out BK311.out (by decide)) (fun _ hk => hk.2) (.int .i64 t306)) (fun _ hk => hk.2) (.slice Ao184 t307.length co184)) (fun _ h_ => h_.1))) hb); have n4_ := Aside0.mk (Kd.zu (by refine sqR ?_; exact (Kd.zo (Kd.zB (p := ⟨gb311, 1, none⟩) (Kd.zB (p := ⟨gb311, 0, none⟩) (Kd.zJ HO301.out BK311.out (by decide)) (fun _ hk => hk.2) (.int .i64 t306)) (fun _ hk => hk.2) (.slice Ao184 t307.length co184)) (fun _ h_ => h_.1))) hb); have n5_ := Aside0.mk (Kd.zu (by refine sqR ?_; exact (Kd.zo (Kd.zB (p := ⟨gb311, 1, none⟩) (Kd.zB (p := ⟨gb311, 0, none⟩) (Kd.zJ HO305.out BK311.out (by decide)) (fun _ hk => hk.2) (.int .i64 t306)) (fun _ hk => hk.2) (.slice Ao184 t307.length co184)) (fun _ h_ => h_.1))) hb); have n6_ := Aside0.mk (Kd.zu (by refine sqR ?_; exact (Kd.zo (Kd.zB (p := ⟨gb311, 1, none⟩) (Kd.zB (p := ⟨gb311, 0, none⟩) (Kd.zJ HO309.out BK311.out (by decide)) (fun _ hk => hk.2) (.int .i64 t306)) (fun _ hk => hk.2) (.slice Ao184 t307.length co184)) (fun _ h_ => h_.1))) hb); have n7_ := Aside0.mk (zb (g := gb245) (o := .cells #[.int .i64 a0_0, .slice A0_1 l0_1.length c0_1] 24 (0, 0)) (by refine sqK ?_; refine zD ?_ NB245_311.out _; refine sqK ?_; refine zD ?_ NB245_311.out _; refine sqK ?_; exact BK245.out) hb); have n8_ := Aside0.mk (zb (g := gb246) (o := .cells #[.int .i64 a1_0, .slice A1_1 l1_1.length c1_1] 24 (0, 0)) (by refine sqK ?_; refine zD ?_ NB246_311.out _; refine sqK ?_; refine zD ?_ NB246_311.out _; refine sqK ?_; exact BK246.out) hb); have n9_ := Aside0.mk (zb (g := gb262) (o := .cells #[.int .i64 t257, .slice Ao42 t258.length co42] 26 (0, 0)) (by refine sqK ?_; refine zD ?_ NB262_311.out _; refine sqK ?_; refine zD ?_ NB262_311.out _; refine sqK ?_; exact BK262.out) hb); have n10_ := Aside0.mk (zb (g := gb267) (o := .cells #[.int .i64 t263, .slice Ao52 t291.length co52] 26 (0, 0)) (by refine sqK ?_; refine zD ?_ NB267_311.out _; refine sqK ?_; refine zD ?_ NB267_311.out _; refine sqK ?_; exact BK267.out) hb); have n11_ := Aside0.mk (zb (g := gb272) (o := .cells #[.int .i64 t268, .slice Ao62 t293.length co62] 26 (0, 0)) (by refine sqK ?_; refine zD ?_ NB272_311.out _; refine sqK ?_; refine zD ?_ NB272_311.out _; refine sqK ?_; exact BK272.out) hb); have n12_ := Aside0.mk (zb (g := gb278) (o := .cells #[.int .i64 t273, .slice Ao72 t274.length co72] 26 (0, 0)) (by refine sqK ?_; refine zD ?_ NB278_311.out _; refine sqK ?_; refine zD ?_ NB278_311.out _; refine sqK ?_; exact BK278.out) hb); have n13_ := Aside0.mk (zb (g := gb311) (o := .cells #[.int .i64 t306, .slice Ao184 t307.length co184] 26 (0, 0)) (by refine sqK ?_; refine zR (cs := #[.int .i64 t306, .slice none 0 0]) ?_ 1 _ rfl; refine sqK ?_; refine zR (cs := #[.int .i64 0, .slice none 0 0]) ?_ 0 _ rfl; refine sqK ?_; exact BK311.out) hb); have n14_ := Aside0.mk (ze sqB hb); clear HO_263001; clear HO_268001; clear HO_273001; clear HO_279001; clear HO301; clear HO305; clear HO309; clear BK245; clear BK246; clear BK262; clear BK267; clear BK272; clear BK278; clear BK311; clear HB; have HO_263001 := n0_; have HO_268001 := n1_; have HO_273001 := n2_; have HO_279001 := n3_; have HO301 := n4_; have HO305 := n5_; have HO309 := n6_; have BK245 := n7_; have BK246 := n8_; have BK262 := n9_; have BK267 := n10_; have BK272 := n11_; have BK278 := n12_; have BK311 := n13_; have HB := n14_; clear n0_ n1_ n2_ n3_ n4_ n5_ n6_ n7_ n8_ n9_ n10_ n11_ n12_ n13_ n14_; (try clear hb); (try clear hb2); (try clear hk); (try clear hi)))
               go_meet
               case rel => exact ⟨_, (true), (sqD), H', ⟨by have := HJ24.out; have := HJ107.out; first | omega | exact Nat.le_refl _⟩, ⟨by (try simp only [hl268001_107]); (try simp only [hl273001_107]); refine sqR ?_; exact Kd.zo HO_263001.out (fun _ hk => ⟨hk.2.2.2.1, ⟨hk.2.2.2.2.1, ⟨hk.2.2.2.2.2, hk.2.2.1⟩⟩⟩)⟩, ⟨by (try simp only [hl268001_107]); (try simp only [hl273001_107]); refine sqR ?_; exact Kd.zo HO_268001.out (fun _ hk => ⟨hk.2.2.2.1, ⟨hk.2.2.2.2.1, ⟨hk.2.2.2.2.2, hk.2.2.1⟩⟩⟩)⟩, ⟨by (try simp only [hl268001_107]); (try simp only [hl273001_107]); refine sqR ?_; exact Kd.zo HO_273001.out (fun _ hk => ⟨hk.2.2.2.1, ⟨hk.2.2.2.2.1, ⟨hk.2.2.2.2.2, hk.2.2.1⟩⟩⟩)⟩, ⟨by (try simp only [hl268001_107]); (try simp only [hl273001_107]); refine sqR ?_; exact Kd.zo HO_279001.out (fun _ hk => ⟨hk.2.2.2.1, ⟨hk.2.2.2.2.1, ⟨hk.2.2.2.2.2, hk.2.2.1⟩⟩⟩)⟩, ⟨by (try simp only [hl268001_107]); (try simp only [hl273001_107]); refine sqR ?_; exact Kd.zo HO309.out (fun _ hk => ⟨hk.2.2.1, ⟨hk.2.2.2.1, ⟨hk.2.2.2.2.1, hk.2.2.2.2.2⟩⟩⟩)⟩, ⟨by (try simp only [hl268001_107]); (try simp only [hl273001_107]); refine sqK ?_; exact BK245.out⟩, ⟨by (try simp only [hl268001_107]); (try simp only [hl273001_107]); refine sqK ?_; exact BK246.out⟩, ⟨by (try simp only [hl268001_107]); (try simp only [hl273001_107]); refine sqK ?_; exact BK262.out⟩, ⟨by (try simp only [hl268001_107]); (try simp only [hl273001_107]); refine sqK ?_; exact BK267.out⟩, ⟨by (try simp only [hl268001_107]); (try simp only [hl273001_107]); refine sqK ?_; exact BK272.out⟩, ⟨by (try simp only [hl268001_107]); (try simp only [hl273001_107]); refine sqK ?_; exact BK278.out⟩, ⟨by (try simp only [hl268001_107]); (try simp only [hl273001_107]); refine sqK ?_; exact BK311.out⟩, ⟨sqB⟩⟩
             case rest =>
              clear HC165
              try clear c1
              try clear c2
              try clear p2
              try clear c13
              try clear c15
              try clear c18
              try clear c19
              try clear c20
              try clear c21
              try clear c27
              try clear c187
              try clear c188
              try clear c189
              try clear c190
              try clear c191
              try clear c192
              try clear c193
              try clear c195
              try clear c196
              try clear c197
              try clear c198
              try clear c199
              try clear c202
              try clear c203
              try clear c204
              try clear c205
              try clear c206
              try clear c207
              try clear c209
              try clear c210
              try clear c211
              try clear c212
              try clear c213
              try clear hcz194_0
              try clear hcz194_1
              try clear hcz200_0
              try clear hcz200_1
              try clear hcz208_0
              try clear hcz208_1
              try clear hcz214_0
              try clear hcz214_1
              try clear hfz194_0
              try clear hfz194_1
              try clear hfz200_0
              try clear hfz200_1
              try clear hfz208_0
              try clear hfz208_1
              try clear hfz214_0
              try clear hfz214_1
              obtain ⟨kq, x110_164, rfl, HA, HJ164, HO_263001, HO_268001, HO_273001, HO_279001, HO_312001, BK245, BK246, BK262, BK267, BK272, BK278, BK311, HB⟩ := hcut
              have hl279001_164 := (Kd.zq HO_279001.out).1
              rw [hl279001_164] at HO_279001
              (try simp only [hl279001_164])
              (try simp only [hl279001_164] at BK245)
              (try simp only [hl279001_164] at BK246)
              (try simp only [hl279001_164] at BK262)
              (try simp only [hl279001_164] at BK267)
              (try simp only [hl279001_164] at BK272)
              (try simp only [hl279001_164] at BK278)
              (try simp only [hl279001_164] at BK311)
              (try simp only [hl279001_164] at HO_263001)
              (try simp only [hl279001_164] at HO_268001)
              (try simp only [hl279001_164] at HO_273001)
              (try simp only [hl279001_164] at HO_312001)
              cases kq with
              | zero => exact absurd HA.out (by simp [zc.j2])
              | succ kj164 =>
               have H := HA.out
               clear HA
               simp only [zc.j2] at H
               by_cases c216 : x110_164 = true
               ·subst c216
                have H1 : (none) = some r := by rw [if_pos rfl] at H; exact H
                clear H
                have H := H1
                clear H1
                exact absurd H (by simp)
               ·replace c216 := Bool.eq_false_iff.mpr c216
                subst c216
                have H1 : ((qe.f kj164 t273 t296 1).bind fun t313 => (if t313 < 0 then (none) else (if t313 = t295 then (some true) else (none)))) = some r := by rw [if_neg (show ¬ (false = true) by decide)] at H; exact H
                clear H
                have H := H1
                clear H1
                replace H := Option.bind_eq_some_iff.mp H
                obtain ⟨t313, A2170, H⟩ := H
                replace H : (if t313 < 0 then (none) else (if t313 = t295 then (some true) else (none))) = some r := H
                have A217 := Aside0.mk A2170
                clear A2170
                by_cases c218 : t313 < 0
                ·rw [if_pos c218] at H
                 exact absurd H (by simp)
                ·rw [if_neg c218] at H
                 have c218b0 : decide (t313 < 0) = false := decide_eq_false c218
                 clear c218
                 by_cases c219 : t313 = t295
                 ·rw [if_pos c219] at H
                  have c219b0 : (t313 == t295) = true := beq_iff_eq.mpr c219
                  have c219b1 : (t313 != t295) = false := bne_eq_false_iff_eq.mpr c219
                  clear c219
                  obtain rfl := Option.some.inj H
                  have hnb220 := NB278_245.out
                  have hnc220 := NB245_278.out
                  have hnb221 := NB278_246.out
                  have hnc221 := NB246_278.out
                  have hnb222 := NB278_262.out
                  have hnc222 := NB262_278.out
                  have hnb223 := NB278_267.out
                  have hnc223 := NB267_278.out
                  have hnb224 := NB278_272.out
                  have hnc224 := NB272_278.out
                  have hnb225 := NB278_311.out
                  have hnc225 := NB311_278.out
                  have hcz226_0 : wc.cell? ⟨gb278, 0, none⟩ = some (.int .i64 t273) := (za BK278.out 0).trans rfl
                  have hcz226_1 : wc.cell? ⟨gb278, 1, none⟩ = some (.slice Ao72 t296.length co72) := (za BK278.out 1).trans rfl
                  have hfz226_0 := zd BK278.out 0; have hfz226_1 := zd BK278.out 1
                  go_wp2_with (first | ((with_reducible refine zn (f := 17) rfl ?_); refine zN (some 113) rfl rfl Try.func17 (by kernel_rfl) rfl #[.agg #[.int .i64 t273, .slice Ao72 t296.length co72], .int .i64 1] rfl sqM ?_; (with_reducible refine (qe.calls kj164 t273 _ _ t296 1 t313 _ ?side1 ?side2 A217.out).mono ?_); (case side1 => exact sqC (Kd.zq HO_279001.out).2.2); (case side2 => exact (Kd.zq HO_279001.out).2.1); rintro e w227 ⟨rfl, hb⟩; refine ⟨_, rfl, ?_⟩; have n0_ := Aside0.mk (Kd.zu (sqR HO_263001.out) hb); have n1_ := Aside0.mk (Kd.zu (sqR HO_268001.out) hb); have n2_ := Aside0.mk (Kd.zu (sqR HO_273001.out) hb); have n3_ := Aside0.mk (Kd.zu (sqR HO_279001.out) hb); have n4_ := Aside0.mk (Kd.zu (sqR HO_312001.out) hb); have n5_ := Aside0.mk (zb (g := gb245) (o := .cells #[.int .i64 a0_0, .slice A0_1 l0_1.length c0_1] 24 (0, 0)) (sqK BK245.out) hb); have n6_ := Aside0.mk (zb (g := gb246) (o := .cells #[.int .i64 a1_0, .slice A1_1 l1_1.length c1_1] 24 (0, 0)) (sqK BK246.out) hb); have n7_ := Aside0.mk (zb (g := gb262) (o := .cells #[.int .i64 t257, .slice Ao42 t258.length co42] 26 (0, 0)) (sqK BK262.out) hb); have n8_ := Aside0.mk (zb (g := gb267) (o := .cells #[.int .i64 t263, .slice Ao52 t291.length co52] 26 (0, 0)) (sqK BK267.out) hb); have n9_ := Aside0.mk (zb (g := gb272) (o := .cells #[.int .i64 t268, .slice Ao62 t293.length co62] 26 (0, 0)) (sqK BK272.out) hb); have n10_ := Aside0.mk (zb (g := gb278) (o := .cells #[.int .i64 t273, .slice Ao72 t296.length co72] 26 (0, 0)) (sqK BK278.out) hb); have n11_ := Aside0.mk (zb (g := gb311) (o := .cells #[.int .i64 t306, .slice Ao184 t307.length co184] 26 (0, 0)) (sqK BK311.out) hb); have n12_ := Aside0.mk (ze sqB hb); clear HO_263001; clear HO_268001; clear HO_273001; clear HO_279001; clear HO_312001; clear BK245; clear BK246; clear BK262; clear BK267; clear BK272; clear BK278; clear BK311; clear HB; have HO_263001 := n0_; have HO_268001 := n1_; have HO_273001 := n2_; have HO_279001 := n3_; have HO_312001 := n4_; have BK245 := n5_; have BK246 := n6_; have BK262 := n7_; have BK267 := n8_; have BK272 := n9_; have BK278 := n10_; have BK311 := n11_; have HB := n12_; clear n0_ n1_ n2_ n3_ n4_ n5_ n6_ n7_ n8_ n9_ n10_ n11_ n12_; (try clear hb); (try clear hb2); (try clear hk); (try clear hi)))
                  go_ret
                  exact ⟨sqE, sqB⟩
                 ·rw [if_neg c219] at H
                  exact absurd H (by simp)
            ·rw [if_neg c161] at H
             exact absurd H (by simp)
       ·replace c105 := Bool.eq_false_iff.mpr c105
        subst c105
        have H1 : (none) = some r := by rw [if_neg (show ¬ (false = true) by decide)] at H; exact H
        clear H
        have H := H1
        clear H1
        exact absurd H (by simp)
      ·replace c102 := Bool.eq_false_iff.mpr c102
       subst c102
       have H1 : (none) = some r := by rw [if_neg (show ¬ (false = true) by decide)] at H; exact H
       clear H
       have H := H1
       clear H1
       exact absurd H (by simp)

end Go.Proofs.Ytkmcefhchhahhaa.F
end
