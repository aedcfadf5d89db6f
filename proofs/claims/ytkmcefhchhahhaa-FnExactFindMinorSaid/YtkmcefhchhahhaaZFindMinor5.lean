/- Several texts of this session in one: Fx34, Fx19, Fx10, Fx25, Fx26, Fx23, Fx24, Base, Bits, Loops, LSets. Conditions: as each theorem says. -/
import Derived.Test.YtkmcefhchhahhaaZFindMinor0
import Derived.Test.YtkmcefhchhahhaaZFindMinor1
import Derived.Test.YtkmcefhchhahhaaZFindMinor2
import Derived.Test.YtkmcefhchhahhaaZFindMinor3
import Derived.Test.YtkmcefhchhahhaaZFindMinor4
import Derived.Laws.BitsLemmas
set_option maxHeartbeats 8000000
set_option maxRecDepth 100000
section
namespace Go.Proofs.Ytkmcefhchhahhaa.F
open Go.RowKit Go.Proofs.YtkmcefhchhahhaaW.PrintWords Go.Proofs.YtkmcefhchhahhaaW.PrintLast Go.Proofs.YtkmcefhchhahhaaW.PrintMore
attribute [local go_sem] jd q8 ji jj qP qN jc q4   -- for this text's walks alone
set_option linter.unusedVariables false
set_option linter.unusedSimpArgs false

def zq.j0 : Nat → Bool → Int → List Int → Int → List Int → Int → List Int → Int → List Int → Option (Bool)
 | 0, _, _, _, _, _, _, _, _, _ => none
 | k + 1, x56, x596000, x596001, x597000, x597001, x615000, x615001, x620000, x620001 => if x56 = true then (none) else ((zO.f k x596000 x596001).bind fun bt623 => ((qF.f k x615000 x615001 bt623.1 bt623.2).bind fun t627 => (if t627 = true then ((zO.f k x597000 x597001).bind fun bt628 => ((qF.f k x620000 x620001 bt628.1 bt628.2).bind fun t632 => (if t632 = true then (some true) else (none)))) else (none))))
def zq.f (k : Nat) (a0_0 : Int) (l0_1 : List Int) (a1_0 : Int) (l1_1 : List Int) : Option (Bool) := (qH.f a0_0 l0_1 1048576).bind fun t597 => (if t597 < 0 then (some true) else ((qH.f a1_0 l1_1 t597).bind fun t598 => (if t598 < 0 then (some true) else ((zO.f k a0_0 l0_1).bind fun bt599 => ((zO.f k a1_0 l1_1).bind fun bt603 => ((zy.f k bt599.1 bt599.2 bt603.1 bt603.2).bind fun bt607 => ((zO.f k a0_0 l0_1).bind fun bt610 => ((zO.f k a1_0 l1_1).bind fun bt615 => ((zp.f k bt610.1 bt610.2 bt615.1 bt615.2).bind fun bt620 => (if bt620.1 = bt607.1 then (if bt620.2.1 = bt607.2.1 then (zq.j0 k (bt620.2.2 != bt607.2.2) a0_0 l0_1 a1_0 l1_1 bt610.1 bt610.2 bt615.1 bt615.2) else (zq.j0 k true a0_0 l0_1 a1_0 l1_1 bt610.1 bt610.2 bt615.1 bt615.2)) else (zq.j0 k true a0_0 l0_1 a1_0 l1_1 bt610.1 bt610.2 bt615.1 bt615.2)))))))))))
def zq.T8 : Bool × List (List Nat × List Nat) := (true, [([], []), ([0], [0]), ([], []), ([2, 1], [2]), ([1, 3, 3], [1, 3]), ([4], [4]), ([5], [5]), ([5], [5]), ([5], [5]), ([6, 4, 0, 1, 2, 3, 4, 5, 6], [6]), ([7, 9, 0, 1, 2, 3, 4, 5, 6, 7, 9], [7]), ([8, 10, 0, 1, 2, 3, 4, 5, 6, 7, 8, 9, 10], [8])])
def zq.B8 : List Nat := [0, 1, 0, 7, 15, 31, 63, 63, 63, 127, 767, 2047]
theorem zq.YO : j9 .any (opsOf Try.f7 8) = zq.T8 := by kernel_rfl
theorem zq.JL : jM zq.T8.2 zq.B8 = true := by kernel_rfl
theorem zq.calls (k : Nat) (a0_0 : Int) (A0_1 : Option Addr) (c0_1 : Nat) (l0_1 : List Int) (a1_0 : Int) (A1_1 : Option Addr) (c1_1 : Nat) (l1_1 : List Int) (r : Bool) (w : World) (hr0_1 : Kd.C (Kd.int .i64) w A0_1 l0_1.length l0_1) (hc0_1 : l0_1.length ≤ c0_1) (hr1_1 : Kd.C (Kd.int .i64) w A1_1 l1_1.length l1_1) (hc1_1 : l1_1.length ≤ c1_1) (h : zq.f k a0_0 l0_1 a1_0 l1_1 = some r) :
  Calls Try.prog 7 #[.agg #[.int .i64 a0_0, .slice A0_1 l0_1.length c0_1], .agg #[.int .i64 a1_0, .slice A1_1 l1_1.length c1_1]] w fun e w' => e = .returned (.bool r) ∧ Below w.heap.size w w' := by
 have hu24 := Try.underlying24
 have hu26 := Try.underlying26
 have HR0_1 := Aside0.mk hr0_1
 have HC0_1 := Aside0.mk hc0_1
 clear hr0_1 hc0_1
 have HR1_1 := Aside0.mk hr1_1
 have HC1_1 := Aside0.mk hc1_1
 clear hr1_1 hc1_1
 have HB := Aside0.mk (Below.refl w.heap.size w)
 have H : ((qH.f a0_0 l0_1 1048576).bind fun t597 => (if t597 < 0 then (some true) else ((qH.f a1_0 l1_1 t597).bind fun t598 => (if t598 < 0 then (some true) else ((zO.f k a0_0 l0_1).bind fun bt599 => ((zO.f k a1_0 l1_1).bind fun bt603 => ((zy.f k bt599.1 bt599.2 bt603.1 bt603.2).bind fun bt607 => ((zO.f k a0_0 l0_1).bind fun bt610 => ((zO.f k a1_0 l1_1).bind fun bt615 => ((zp.f k bt610.1 bt610.2 bt615.1 bt615.2).bind fun bt620 => (if bt620.1 = bt607.1 then (if bt620.2.1 = bt607.2.1 then (zq.j0 k (bt620.2.2 != bt607.2.2) a0_0 l0_1 a1_0 l1_1 bt610.1 bt610.2 bt615.1 bt615.2) else (zq.j0 k true a0_0 l0_1 a1_0 l1_1 bt610.1 bt610.2 bt615.1 bt615.2)) else (zq.j0 k true a0_0 l0_1 a1_0 l1_1 bt610.1 bt610.2 bt615.1 bt615.2)))))))))))) = some r := h
 clear h
 replace H := Option.bind_eq_some_iff.mp H
 obtain ⟨t597, A30, H⟩ := H
 replace H : (if t597 < 0 then (some true) else ((qH.f a1_0 l1_1 t597).bind fun t598 => (if t598 < 0 then (some true) else ((zO.f k a0_0 l0_1).bind fun bt599 => ((zO.f k a1_0 l1_1).bind fun bt603 => ((zy.f k bt599.1 bt599.2 bt603.1 bt603.2).bind fun bt607 => ((zO.f k a0_0 l0_1).bind fun bt610 => ((zO.f k a1_0 l1_1).bind fun bt615 => ((zp.f k bt610.1 bt610.2 bt615.1 bt615.2).bind fun bt620 => (if bt620.1 = bt607.1 then (if bt620.2.1 = bt607.2.1 then (zq.j0 k (bt620.2.2 != bt607.2.2) a0_0 l0_1 a1_0 l1_1 bt610.1 bt610.2 bt615.1 bt615.2) else (zq.j0 k true a0_0 l0_1 a1_0 l1_1 bt610.1 bt610.2 bt615.1 bt615.2)) else (zq.j0 k true a0_0 l0_1 a1_0 l1_1 bt610.1 bt610.2 bt615.1 bt615.2))))))))))) = some r := H
 have A3 := Aside0.mk A30
 clear A30
 by_cases c4 : t597 < 0
 ·rw [if_pos c4] at H
  have c4b0 : decide (t597 < 0) = true := decide_eq_true c4
  clear c4
  obtain rfl := Option.some.inj H
  go_enter Try.func7, Try.ntmps7
  go_wp2_with (first | ((with_reducible refine zD (N := 2) rfl ?_); refine zA ?hg (N := 2) ?hd (cs := #[.int .i64 a0_0, .slice A0_1 l0_1.length c0_1]) (t := 24) ?hr ?_; (case hd => rfl); (case hg => rfl); (case hr => first | (go_simp; done) | (go_simp; rfl)); intro gb595 hg w5 hbox hb; have n0_ := Aside0.mk (zl (by repeat (first | (with_reducible first | exact HB.out | apply zc | apply za | apply zb) | exact HB.out)) hb); have n1_ := Aside0.mk (hbox); have n2_ := Aside0.mk ((by rw [hg]; exact (zk (by repeat (first | (with_reducible first | exact HB.out | apply zc | apply za | apply zb) | exact HB.out))) : w.heap.size ≤ gb595)); have n3_ := Aside0.mk ((by rw [hg]; exact (zk (by repeat (first | (with_reducible first | exact HB.out | apply zc | apply za | apply zb) | exact HB.out))) : w.heap.size ≤ gb595)); clear HB; have HB := n0_; have BK595 := n1_; have GW595 := n2_; have GE595 := n3_; clear n0_ n1_ n2_ n3_; clear hb hbox hg) | ((with_reducible refine zD (N := 3) rfl ?_); refine zA ?hg (N := 3) ?hd (cs := #[.int .i64 a1_0, .slice A1_1 l1_1.length c1_1]) (t := 24) ?hr ?_; (case hd => rfl); (case hg => rfl); (case hr => first | (go_simp; done) | (go_simp; rfl)); intro gb596 hg w6 hbox hb; have n0_ := Aside0.mk (zj (g := gb595) (o := .cells #[.int .i64 a0_0, .slice A0_1 l0_1.length c0_1] 24 (0, 0)) (by (with_reducible repeat (first | refine ze ?_ _ | refine zg ?_ | refine zf ?_ _)); exact BK595.out) hb); have n1_ := Aside0.mk (zl (by repeat (first | (with_reducible first | exact HB.out | apply zc | apply za | apply zb | refine zd ?_ GE595.out) | exact HB.out)) hb); have n2_ := Aside0.mk (hbox); have n3_ := Aside0.mk ((by rw [hg]; exact (zk (by repeat (first | (with_reducible first | exact HB.out | apply zc | apply za | apply zb | refine zd ?_ GE595.out) | exact HB.out))) : w.heap.size ≤ gb596)); have n4_ := Aside0.mk ((by rw [hg]; exact (zk (by repeat (first | (with_reducible first | exact HB.out | apply zc | apply za | apply zb | refine zd ?_ GE595.out) | exact HB.out))) : w.heap.size ≤ gb596)); have n5_ := Aside0.mk ((by rw [hg]; exact Nat.ne_of_lt (zM (g := gb595) (o := .cells #[.int .i64 a0_0, .slice A0_1 l0_1.length c0_1] 24 (0, 0)) (by (with_reducible repeat (first | refine ze ?_ _ | refine zg ?_ | refine zf ?_ _)); exact BK595.out)) : gb595 ≠ gb596)); have n6_ := Aside0.mk ((by rw [hg]; exact Nat.ne_of_gt (zM (g := gb595) (o := .cells #[.int .i64 a0_0, .slice A0_1 l0_1.length c0_1] 24 (0, 0)) (by (with_reducible repeat (first | refine ze ?_ _ | refine zg ?_ | refine zf ?_ _)); exact BK595.out)) : gb596 ≠ gb595)); clear BK595; clear HB; have BK595 := n0_; have HB := n1_; have BK596 := n2_; have GW596 := n3_; have GE596 := n4_; have NB595_596 := n5_; have NB596_595 := n6_; clear n0_ n1_ n2_ n3_ n4_ n5_ n6_; clear hb hbox hg; have hnb7 := NB595_596.out; have hnc7 := NB596_595.out; have hcz8_0 : w6.cell? ⟨gb595, 0, none⟩ = some (.int .i64 a0_0) := (zh BK595.out 0).trans rfl; have hcz8_1 : w6.cell? ⟨gb595, 1, none⟩ = some (.slice A0_1 l0_1.length c0_1) := (zh BK595.out 1).trans rfl; have hfz8_0 := zi BK595.out 0; have hfz8_1 := zi BK595.out 1) | ((with_reducible refine zo (f := 11) rfl ?_); refine zL (some 16) rfl rfl Try.func11 (by kernel_rfl) rfl #[.agg #[.int .i64 a0_0, .slice A0_1 l0_1.length c0_1], .int .i64 1048576] rfl (by (try simp only [List.map_toArray, List.map_cons, List.map_nil]); first | done | rfl | (simp only [List.length_drop, List.length_take]; rfl)) ?_; (with_reducible refine (qH.calls a0_0 _ _ l0_1 1048576 t597 _ ?side1 ?side2 A3.out).mono ?_); (case side1 => repeat (first | exact (Kd.zG HR0_1.out HB.out) | (with_reducible refine Kd.zI ?_ _) | (with_reducible refine Kd.zH ?_ _) | (with_reducible refine Kd.zP ?_))); (case side2 => exact HC0_1.out); rintro e w9 ⟨rfl, hb⟩; refine ⟨_, rfl, ?_⟩; have n0_ := Aside0.mk (zj (g := gb595) (o := .cells #[.int .i64 a0_0, .slice A0_1 l0_1.length c0_1] 24 (0, 0)) (by (with_reducible repeat (first | refine ze ?_ _ | refine zg ?_ | refine zf ?_ _)); exact BK595.out) hb); have n1_ := Aside0.mk (zj (g := gb596) (o := .cells #[.int .i64 a1_0, .slice A1_1 l1_1.length c1_1] 24 (0, 0)) (by (with_reducible repeat (first | refine ze ?_ _ | refine zg ?_ | refine zf ?_ _)); exact BK596.out) hb); have n2_ := Aside0.mk (zl (by repeat (first | (with_reducible first | exact HB.out | apply zc | apply za | apply zb | refine zd ?_ GE595.out | refine zd ?_ GE596.out) | exact HB.out)) hb); clear BK595; clear BK596; clear HB; have BK595 := n0_; have BK596 := n1_; have HB := n2_; clear n0_ n1_ n2_; (try clear hb); (try clear hb2); (try clear hk); (try clear hi)))
  go_ret
  exact ⟨by first | rfl | (simp [zt, zu] <;> rfl) | (simp [*, zt, zu] <;> rfl), by repeat (first | (with_reducible first | exact HB.out | apply zc | apply za | apply zb | refine zd ?_ GE595.out | refine zd ?_ GE596.out) | exact HB.out)⟩
 ·rw [if_neg c4] at H
  have c4b0 : decide (t597 < 0) = false := decide_eq_false c4
  clear c4
  replace H := Option.bind_eq_some_iff.mp H
  obtain ⟨t598, A100, H⟩ := H
  replace H : (if t598 < 0 then (some true) else ((zO.f k a0_0 l0_1).bind fun bt599 => ((zO.f k a1_0 l1_1).bind fun bt603 => ((zy.f k bt599.1 bt599.2 bt603.1 bt603.2).bind fun bt607 => ((zO.f k a0_0 l0_1).bind fun bt610 => ((zO.f k a1_0 l1_1).bind fun bt615 => ((zp.f k bt610.1 bt610.2 bt615.1 bt615.2).bind fun bt620 => (if bt620.1 = bt607.1 then (if bt620.2.1 = bt607.2.1 then (zq.j0 k (bt620.2.2 != bt607.2.2) a0_0 l0_1 a1_0 l1_1 bt610.1 bt610.2 bt615.1 bt615.2) else (zq.j0 k true a0_0 l0_1 a1_0 l1_1 bt610.1 bt610.2 bt615.1 bt615.2)) else (zq.j0 k true a0_0 l0_1 a1_0 l1_1 bt610.1 bt610.2 bt615.1 bt615.2))))))))) = some r := H
  have A10 := Aside0.mk A100
  clear A100
  by_cases c11 : t598 < 0
  ·rw [if_pos c11] at H
   have c11b0 : decide (t598 < 0) = true := decide_eq_true c11
   clear c11
   obtain rfl := Option.some.inj H
   go_enter Try.func7, Try.ntmps7
   go_wp2_with (first | ((with_reducible refine zD (N := 2) rfl ?_); refine zA ?hg (N := 2) ?hd (cs := #[.int .i64 a0_0, .slice A0_1 l0_1.length c0_1]) (t := 24) ?hr ?_; (case hd => rfl); (case hg => rfl); (case hr => first | (go_simp; done) | (go_simp; rfl)); intro gb595 hg w12 hbox hb; have n0_ := Aside0.mk (zl (by repeat (first | (with_reducible first | exact HB.out | apply zc | apply za | apply zb) | exact HB.out)) hb); have n1_ := Aside0.mk (hbox); have n2_ := Aside0.mk ((by rw [hg]; exact (zk (by repeat (first | (with_reducible first | exact HB.out | apply zc | apply za | apply zb) | exact HB.out))) : w.heap.size ≤ gb595)); have n3_ := Aside0.mk ((by rw [hg]; exact (zk (by repeat (first | (with_reducible first | exact HB.out | apply zc | apply za | apply zb) | exact HB.out))) : w.heap.size ≤ gb595)); clear HB; have HB := n0_; have BK595 := n1_; have GW595 := n2_; have GE595 := n3_; clear n0_ n1_ n2_ n3_; clear hb hbox hg) | ((with_reducible refine zD (N := 3) rfl ?_); refine zA ?hg (N := 3) ?hd (cs := #[.int .i64 a1_0, .slice A1_1 l1_1.length c1_1]) (t := 24) ?hr ?_; (case hd => rfl); (case hg => rfl); (case hr => first | (go_simp; done) | (go_simp; rfl)); intro gb596 hg w13 hbox hb; have n0_ := Aside0.mk (zj (g := gb595) (o := .cells #[.int .i64 a0_0, .slice A0_1 l0_1.length c0_1] 24 (0, 0)) (by (with_reducible repeat (first | refine ze ?_ _ | refine zg ?_ | refine zf ?_ _)); exact BK595.out) hb); have n1_ := Aside0.mk (zl (by repeat (first | (with_reducible first | exact HB.out | apply zc | apply za | apply zb | refine zd ?_ GE595.out) | exact HB.out)) hb); have n2_ := Aside0.mk (hbox); have n3_ := Aside0.mk ((by rw [hg]; exact (zk (by repeat (first | (with_reducible first | exact HB.out | apply zc | apply za | apply zb | refine zd ?_ GE595.out) | exact HB.out))) : w.heap.size ≤ gb596)); have n4_ := Aside0.mk ((by rw [hg]; exact (zk (by repeat (first | (with_reducible first | exact HB.out | apply zc | apply za | apply zb | refine zd ?_ GE595.out) | exact HB.out))) : w.heap.size ≤ gb596)); have n5_ := Aside0.mk ((by rw [hg]; exact Nat.ne_of_lt (zM (g := gb595) (o := .cells #[.int .i64 a0_0, .slice A0_1 l0_1.length c0_1] 24 (0, 0)) (by (with_reducible repeat (first | refine ze ?_ _ | refine zg ?_ | refine zf ?_ _)); exact BK595.out)) : gb595 ≠ gb596)); have n6_ := Aside0.mk ((by rw [hg]; exact Nat.ne_of_gt (zM (g := gb595) (o := .cells #[.int .i64 a0_0, .slice A0_1 l0_1.length c0_1] 24 (0, 0)) (by (with_reducible repeat (first | refine ze ?_ _ | refine zg ?_ | refine zf ?_ _)); exact BK595.out)) : gb596 ≠ gb595)); clear BK595; clear HB; have BK595 := n0_; have HB := n1_; have BK596 := n2_; have GW596 := n3_; have GE596 := n4_; have NB595_596 := n5_; have NB596_595 := n6_; clear n0_ n1_ n2_ n3_ n4_ n5_ n6_; clear hb hbox hg; have hnb14 := NB595_596.out; have hnc14 := NB596_595.out; have hcz15_0 : w13.cell? ⟨gb595, 0, none⟩ = some (.int .i64 a0_0) := (zh BK595.out 0).trans rfl; have hcz15_1 : w13.cell? ⟨gb595, 1, none⟩ = some (.slice A0_1 l0_1.length c0_1) := (zh BK595.out 1).trans rfl; have hfz15_0 := zi BK595.out 0; have hfz15_1 := zi BK595.out 1) | ((with_reducible refine zo (f := 11) rfl ?_); refine zL (some 16) rfl rfl Try.func11 (by kernel_rfl) rfl #[.agg #[.int .i64 a0_0, .slice A0_1 l0_1.length c0_1], .int .i64 1048576] rfl (by (try simp only [List.map_toArray, List.map_cons, List.map_nil]); first | done | rfl | (simp only [List.length_drop, List.length_take]; rfl)) ?_; (with_reducible refine (qH.calls a0_0 _ _ l0_1 1048576 t597 _ ?side1 ?side2 A3.out).mono ?_); (case side1 => repeat (first | exact (Kd.zG HR0_1.out HB.out) | (with_reducible refine Kd.zI ?_ _) | (with_reducible refine Kd.zH ?_ _) | (with_reducible refine Kd.zP ?_))); (case side2 => exact HC0_1.out); rintro e w16 ⟨rfl, hb⟩; refine ⟨_, rfl, ?_⟩; have n0_ := Aside0.mk (zj (g := gb595) (o := .cells #[.int .i64 a0_0, .slice A0_1 l0_1.length c0_1] 24 (0, 0)) (by (with_reducible repeat (first | refine ze ?_ _ | refine zg ?_ | refine zf ?_ _)); exact BK595.out) hb); have n1_ := Aside0.mk (zj (g := gb596) (o := .cells #[.int .i64 a1_0, .slice A1_1 l1_1.length c1_1] 24 (0, 0)) (by (with_reducible repeat (first | refine ze ?_ _ | refine zg ?_ | refine zf ?_ _)); exact BK596.out) hb); have n2_ := Aside0.mk (zl (by repeat (first | (with_reducible first | exact HB.out | apply zc | apply za | apply zb | refine zd ?_ GE595.out | refine zd ?_ GE596.out) | exact HB.out)) hb); clear BK595; clear BK596; clear HB; have BK595 := n0_; have BK596 := n1_; have HB := n2_; clear n0_ n1_ n2_; (try clear hb); (try clear hb2); (try clear hk); (try clear hi); have hcz17_0 : w16.cell? ⟨gb596, 0, none⟩ = some (.int .i64 a1_0) := (zh BK596.out 0).trans rfl; have hcz17_1 : w16.cell? ⟨gb596, 1, none⟩ = some (.slice A1_1 l1_1.length c1_1) := (zh BK596.out 1).trans rfl; have hfz17_0 := zi BK596.out 0; have hfz17_1 := zi BK596.out 1) | ((with_reducible refine zo (f := 11) rfl ?_); refine zL (some 21) rfl rfl Try.func11 (by kernel_rfl) rfl #[.agg #[.int .i64 a1_0, .slice A1_1 l1_1.length c1_1], .int .i64 t597] rfl (by (try simp only [List.map_toArray, List.map_cons, List.map_nil]); first | done | rfl | (simp only [List.length_drop, List.length_take]; rfl)) ?_; (with_reducible refine (qH.calls a1_0 _ _ l1_1 t597 t598 _ ?side1 ?side2 A10.out).mono ?_); (case side1 => repeat (first | exact (Kd.zG HR1_1.out HB.out) | (with_reducible refine Kd.zI ?_ _) | (with_reducible refine Kd.zH ?_ _) | (with_reducible refine Kd.zP ?_))); (case side2 => exact HC1_1.out); rintro e w18 ⟨rfl, hb⟩; refine ⟨_, rfl, ?_⟩; have n0_ := Aside0.mk (zj (g := gb595) (o := .cells #[.int .i64 a0_0, .slice A0_1 l0_1.length c0_1] 24 (0, 0)) (by (with_reducible repeat (first | refine ze ?_ _ | refine zg ?_ | refine zf ?_ _)); exact BK595.out) hb); have n1_ := Aside0.mk (zj (g := gb596) (o := .cells #[.int .i64 a1_0, .slice A1_1 l1_1.length c1_1] 24 (0, 0)) (by (with_reducible repeat (first | refine ze ?_ _ | refine zg ?_ | refine zf ?_ _)); exact BK596.out) hb); have n2_ := Aside0.mk (zl (by repeat (first | (with_reducible first | exact HB.out | apply zc | apply za | apply zb | refine zd ?_ GE595.out | refine zd ?_ GE596.out) | exact HB.out)) hb); clear BK595; clear BK596; clear HB; have BK595 := n0_; have BK596 := n1_; have HB := n2_; clear n0_ n1_ n2_; (try clear hb); (try clear hb2); (try clear hk); (try clear hi)))
   go_ret
   exact ⟨by first | rfl | (simp [zt, zu] <;> rfl) | (simp [*, zt, zu] <;> rfl), by repeat (first | (with_reducible first | exact HB.out | apply zc | apply za | apply zb | refine zd ?_ GE595.out | refine zd ?_ GE596.out) | exact HB.out)⟩
  ·rw [if_neg c11] at H
   have c11b0 : decide (t598 < 0) = false := decide_eq_false c11
   clear c11
   replace H := Option.bind_eq_some_iff.mp H
   obtain ⟨⟨t599, t600⟩, A190, H⟩ := H
   replace H : ((zO.f k a1_0 l1_1).bind fun bt603 => ((zy.f k t599 t600 bt603.1 bt603.2).bind fun bt607 => ((zO.f k a0_0 l0_1).bind fun bt610 => ((zO.f k a1_0 l1_1).bind fun bt615 => ((zp.f k bt610.1 bt610.2 bt615.1 bt615.2).bind fun bt620 => (if bt620.1 = bt607.1 then (if bt620.2.1 = bt607.2.1 then (zq.j0 k (bt620.2.2 != bt607.2.2) a0_0 l0_1 a1_0 l1_1 bt610.1 bt610.2 bt615.1 bt615.2) else (zq.j0 k true a0_0 l0_1 a1_0 l1_1 bt610.1 bt610.2 bt615.1 bt615.2)) else (zq.j0 k true a0_0 l0_1 a1_0 l1_1 bt610.1 bt610.2 bt615.1 bt615.2))))))) = some r := H
   have A19 := Aside0.mk A190
   clear A190
   replace H := Option.bind_eq_some_iff.mp H
   obtain ⟨⟨t603, t604⟩, A200, H⟩ := H
   replace H : ((zy.f k t599 t600 t603 t604).bind fun bt607 => ((zO.f k a0_0 l0_1).bind fun bt610 => ((zO.f k a1_0 l1_1).bind fun bt615 => ((zp.f k bt610.1 bt610.2 bt615.1 bt615.2).bind fun bt620 => (if bt620.1 = bt607.1 then (if bt620.2.1 = bt607.2.1 then (zq.j0 k (bt620.2.2 != bt607.2.2) a0_0 l0_1 a1_0 l1_1 bt610.1 bt610.2 bt615.1 bt615.2) else (zq.j0 k true a0_0 l0_1 a1_0 l1_1 bt610.1 bt610.2 bt615.1 bt615.2)) else (zq.j0 k true a0_0 l0_1 a1_0 l1_1 bt610.1 bt610.2 bt615.1 bt615.2)))))) = some r := H
   have A20 := Aside0.mk A200
   clear A200
   replace H := Option.bind_eq_some_iff.mp H
   obtain ⟨⟨t607, t608, t609⟩, A210, H⟩ := H
   replace H : ((zO.f k a0_0 l0_1).bind fun bt610 => ((zO.f k a1_0 l1_1).bind fun bt615 => ((zp.f k bt610.1 bt610.2 bt615.1 bt615.2).bind fun bt620 => (if bt620.1 = t607 then (if bt620.2.1 = t608 then (zq.j0 k (bt620.2.2 != t609) a0_0 l0_1 a1_0 l1_1 bt610.1 bt610.2 bt615.1 bt615.2) else (zq.j0 k true a0_0 l0_1 a1_0 l1_1 bt610.1 bt610.2 bt615.1 bt615.2)) else (zq.j0 k true a0_0 l0_1 a1_0 l1_1 bt610.1 bt610.2 bt615.1 bt615.2))))) = some r := H
   have A21 := Aside0.mk A210
   clear A210
   replace H := Option.bind_eq_some_iff.mp H
   obtain ⟨⟨t610, t611⟩, A220, H⟩ := H
   replace H : ((zO.f k a1_0 l1_1).bind fun bt615 => ((zp.f k t610 t611 bt615.1 bt615.2).bind fun bt620 => (if bt620.1 = t607 then (if bt620.2.1 = t608 then (zq.j0 k (bt620.2.2 != t609) a0_0 l0_1 a1_0 l1_1 t610 t611 bt615.1 bt615.2) else (zq.j0 k true a0_0 l0_1 a1_0 l1_1 t610 t611 bt615.1 bt615.2)) else (zq.j0 k true a0_0 l0_1 a1_0 l1_1 t610 t611 bt615.1 bt615.2)))) = some r := H
   have A22 := Aside0.mk A220
   clear A220
   replace H := Option.bind_eq_some_iff.mp H
   obtain ⟨⟨t615, t616⟩, A230, H⟩ := H
   replace H : ((zp.f k t610 t611 t615 t616).bind fun bt620 => (if bt620.1 = t607 then (if bt620.2.1 = t608 then (zq.j0 k (bt620.2.2 != t609) a0_0 l0_1 a1_0 l1_1 t610 t611 t615 t616) else (zq.j0 k true a0_0 l0_1 a1_0 l1_1 t610 t611 t615 t616)) else (zq.j0 k true a0_0 l0_1 a1_0 l1_1 t610 t611 t615 t616))) = some r := H
   have A23 := Aside0.mk A230
   clear A230
   replace H := Option.bind_eq_some_iff.mp H
   obtain ⟨⟨t620, t621, t622⟩, A240, H⟩ := H
   replace H : (if t620 = t607 then (if t621 = t608 then (zq.j0 k (t622 != t609) a0_0 l0_1 a1_0 l1_1 t610 t611 t615 t616) else (zq.j0 k true a0_0 l0_1 a1_0 l1_1 t610 t611 t615 t616)) else (zq.j0 k true a0_0 l0_1 a1_0 l1_1 t610 t611 t615 t616)) = some r := H
   have A24 := Aside0.mk A240
   clear A240
   have HC25 := Aside0.mk H
   clear H
   go_enter Try.func7, Try.ntmps7
   try go_wp2_with (first | ((with_reducible refine zD (N := 2) rfl ?_); refine zA ?hg (N := 2) ?hd (cs := #[.int .i64 a0_0, .slice A0_1 l0_1.length c0_1]) (t := 24) ?hr ?_; (case hd => rfl); (case hg => rfl); (case hr => first | (go_simp; done) | (go_simp; rfl)); intro gb595 hg w26 hbox hb; have n0_ := Aside0.mk (zl (by repeat (first | (with_reducible first | exact HB.out | apply zc | apply za | apply zb) | exact HB.out)) hb); have n1_ := Aside0.mk (hbox); have n2_ := Aside0.mk ((by rw [hg]; exact (zk (by repeat (first | (with_reducible first | exact HB.out | apply zc | apply za | apply zb) | exact HB.out))) : w.heap.size ≤ gb595)); have n3_ := Aside0.mk ((by rw [hg]; exact (zk (by repeat (first | (with_reducible first | exact HB.out | apply zc | apply za | apply zb) | exact HB.out))) : w.heap.size ≤ gb595)); clear HB; have HB := n0_; have BK595 := n1_; have GW595 := n2_; have GE595 := n3_; clear n0_ n1_ n2_ n3_; clear hb hbox hg) | ((with_reducible refine zD (N := 3) rfl ?_); refine zA ?hg (N := 3) ?hd (cs := #[.int .i64 a1_0, .slice A1_1 l1_1.length c1_1]) (t := 24) ?hr ?_; (case hd => rfl); (case hg => rfl); (case hr => first | (go_simp; done) | (go_simp; rfl)); intro gb596 hg w27 hbox hb; have n0_ := Aside0.mk (zj (g := gb595) (o := .cells #[.int .i64 a0_0, .slice A0_1 l0_1.length c0_1] 24 (0, 0)) (by (with_reducible repeat (first | refine ze ?_ _ | refine zg ?_ | refine zf ?_ _)); exact BK595.out) hb); have n1_ := Aside0.mk (zl (by repeat (first | (with_reducible first | exact HB.out | apply zc | apply za | apply zb | refine zd ?_ GE595.out) | exact HB.out)) hb); have n2_ := Aside0.mk (hbox); have n3_ := Aside0.mk ((by rw [hg]; exact (zk (by repeat (first | (with_reducible first | exact HB.out | apply zc | apply za | apply zb | refine zd ?_ GE595.out) | exact HB.out))) : w.heap.size ≤ gb596)); have n4_ := Aside0.mk ((by rw [hg]; exact (zk (by repeat (first | (with_reducible first | exact HB.out | apply zc | apply za | apply zb | refine zd ?_ GE595.out) | exact HB.out))) : w.heap.size ≤ gb596)); have n5_ := Aside0.mk ((by rw [hg]; exact Nat.ne_of_lt (zM (g := gb595) (o := .cells #[.int .i64 a0_0, .slice A0_1 l0_1.length c0_1] 24 (0, 0)) (by (with_reducible repeat (first | refine ze ?_ _ | refine zg ?_ | refine zf ?_ _)); exact BK595.out)) : gb595 ≠ gb596)); have n6_ := Aside0.mk ((by rw [hg]; exact Nat.ne_of_gt (zM (g := gb595) (o := .cells #[.int .i64 a0_0, .slice A0_1 l0_1.length c0_1] 24 (0, 0)) (by (with_reducible repeat (first | refine ze ?_ _ | refine zg ?_ | refine zf ?_ _)); exact BK595.out)) : gb596 ≠ gb595)); clear BK595; clear HB; have BK595 := n0_; have HB := n1_; have BK596 := n2_; have GW596 := n3_; have GE596 := n4_; have NB595_596 := n5_; have NB596_595 := n6_; clear n0_ n1_ n2_ n3_ n4_ n5_ n6_; clear hb hbox hg; have hnb28 := NB595_596.out; have hnc28 := NB596_595.out; have hcz29_0 : w27.cell? ⟨gb595, 0, none⟩ = some (.int .i64 a0_0) := (zh BK595.out 0).trans rfl; have hcz29_1 : w27.cell? ⟨gb595, 1, none⟩ = some (.slice A0_1 l0_1.length c0_1) := (zh BK595.out 1).trans rfl; have hfz29_0 := zi BK595.out 0; have hfz29_1 := zi BK595.out 1) | ((with_reducible refine zo (f := 11) rfl ?_); refine zL (some 16) rfl rfl Try.func11 (by kernel_rfl) rfl #[.agg #[.int .i64 a0_0, .slice A0_1 l0_1.length c0_1], .int .i64 1048576] rfl (by (try simp only [List.map_toArray, List.map_cons, List.map_nil]); first | done | rfl | (simp only [List.length_drop, List.length_take]; rfl)) ?_; (with_reducible refine (qH.calls a0_0 _ _ l0_1 1048576 t597 _ ?side1 ?side2 A3.out).mono ?_); (case side1 => repeat (first | exact (Kd.zG HR0_1.out HB.out) | (with_reducible refine Kd.zI ?_ _) | (with_reducible refine Kd.zH ?_ _) | (with_reducible refine Kd.zP ?_))); (case side2 => exact HC0_1.out); rintro e w30 ⟨rfl, hb⟩; refine ⟨_, rfl, ?_⟩; have n0_ := Aside0.mk (zj (g := gb595) (o := .cells #[.int .i64 a0_0, .slice A0_1 l0_1.length c0_1] 24 (0, 0)) (by (with_reducible repeat (first | refine ze ?_ _ | refine zg ?_ | refine zf ?_ _)); exact BK595.out) hb); have n1_ := Aside0.mk (zj (g := gb596) (o := .cells #[.int .i64 a1_0, .slice A1_1 l1_1.length c1_1] 24 (0, 0)) (by (with_reducible repeat (first | refine ze ?_ _ | refine zg ?_ | refine zf ?_ _)); exact BK596.out) hb); have n2_ := Aside0.mk (zl (by repeat (first | (with_reducible first | exact HB.out | apply zc | apply za | apply zb | refine zd ?_ GE595.out | refine zd ?_ GE596.out) | exact HB.out)) hb); clear BK595; clear BK596; clear HB; have BK595 := n0_; have BK596 := n1_; have HB := n2_; clear n0_ n1_ n2_; (try clear hb); (try clear hb2); (try clear hk); (try clear hi); have hcz31_0 : w30.cell? ⟨gb596, 0, none⟩ = some (.int .i64 a1_0) := (zh BK596.out 0).trans rfl; have hcz31_1 : w30.cell? ⟨gb596, 1, none⟩ = some (.slice A1_1 l1_1.length c1_1) := (zh BK596.out 1).trans rfl; have hfz31_0 := zi BK596.out 0; have hfz31_1 := zi BK596.out 1) | ((with_reducible refine zo (f := 11) rfl ?_); refine zL (some 21) rfl rfl Try.func11 (by kernel_rfl) rfl #[.agg #[.int .i64 a1_0, .slice A1_1 l1_1.length c1_1], .int .i64 t597] rfl (by (try simp only [List.map_toArray, List.map_cons, List.map_nil]); first | done | rfl | (simp only [List.length_drop, List.length_take]; rfl)) ?_; (with_reducible refine (qH.calls a1_0 _ _ l1_1 t597 t598 _ ?side1 ?side2 A10.out).mono ?_); (case side1 => repeat (first | exact (Kd.zG HR1_1.out HB.out) | (with_reducible refine Kd.zI ?_ _) | (with_reducible refine Kd.zH ?_ _) | (with_reducible refine Kd.zP ?_))); (case side2 => exact HC1_1.out); rintro e w32 ⟨rfl, hb⟩; refine ⟨_, rfl, ?_⟩; have n0_ := Aside0.mk (zj (g := gb595) (o := .cells #[.int .i64 a0_0, .slice A0_1 l0_1.length c0_1] 24 (0, 0)) (by (with_reducible repeat (first | refine ze ?_ _ | refine zg ?_ | refine zf ?_ _)); exact BK595.out) hb); have n1_ := Aside0.mk (zj (g := gb596) (o := .cells #[.int .i64 a1_0, .slice A1_1 l1_1.length c1_1] 24 (0, 0)) (by (with_reducible repeat (first | refine ze ?_ _ | refine zg ?_ | refine zf ?_ _)); exact BK596.out) hb); have n2_ := Aside0.mk (zl (by repeat (first | (with_reducible first | exact HB.out | apply zc | apply za | apply zb | refine zd ?_ GE595.out | refine zd ?_ GE596.out) | exact HB.out)) hb); clear BK595; clear BK596; clear HB; have BK595 := n0_; have BK596 := n1_; have HB := n2_; clear n0_ n1_ n2_; (try clear hb); (try clear hb2); (try clear hk); (try clear hi)))
   have n0_ := Aside0.mk (zg BK595.out)
   have n1_ := Aside0.mk (zg BK596.out)
   have n2_ := Aside0.mk (zb HB.out)
   clear BK595
   clear BK596
   clear HB
   have BK595 := n0_
   have BK596 := n1_
   have HB := n2_
   clear n0_ n1_ n2_
   refine jA (n := 12) (S := fun w' => w'.cell? ⟨gb595, 0, none⟩ = some (.int .i64 a0_0) ∧ w'.cell? ⟨gb595, 1, none⟩ = some (.slice A0_1 l0_1.length c0_1) ∧ w'.cell? ⟨gb596, 0, none⟩ = some (.int .i64 a1_0) ∧ w'.cell? ⟨gb596, 1, none⟩ = some (.slice A1_1 l1_1.length c1_1)) (ds := []) #[false, false, false, false, false, false, false, false, false, false, false, false] (by kernel_rfl) rfl rfl ⟨(zh BK595.out 0).trans rfl, (zh BK595.out 1).trans rfl, (zh BK596.out 0).trans rfl, (zh BK596.out 1).trans rfl⟩ (fun hHeld => ?_); refine qO zq.YO zq.JL (fun HT_ HW_ => ?_)
   generalize w32.drew = w33 at BK595 BK596 HB hHeld ⊢
   refine jf (i := 0) (N := some 25) (v := ?_) (a' := ?_) #[true, false, false, false, false, false, false, false, false, false, false, false] rfl rfl (qu HT_.out HW_.out (by kernel_rfl)) (fun _ _ _ h => h) (Or.inl ⟨by rfl, ?_⟩) hHeld ?_ ?_
   rotate_left
   ·rintro w' ⟨s0, s1, s2, s3⟩
    go_simp
    with_reducible rfl
   rotate_left
   ·simp only [Act.put, List.setIfInBounds_toArray, List.set_cons_zero, List.set_cons_succ, zm, zn]
    rfl
   refine jf (i := 2) (N := some 27) (v := ?_) (a' := ?_) #[true, false, true, false, false, false, false, false, false, false, false, false] rfl rfl (qu HT_.out HW_.out (by kernel_rfl)) (fun _ _ _ h => h) (Or.inl ⟨by rfl, ?_⟩) hHeld ?_ ?_
   rotate_left
   ·rintro w' ⟨s0, s1, s2, s3⟩
    go_simp
    with_reducible rfl
   rotate_left
   ·simp only [Act.put, List.setIfInBounds_toArray, List.set_cons_zero, List.set_cons_succ, zm, zn]
    rfl
   refine jJ (i := 1) (N := some 26) #[true, true, true, false, false, false, false, false, false, false, false, false] rfl rfl (qM HT_.out (by kernel_rfl)) (by decide) (fun K hK => ?_)
   refine jB Try.func13 (by kernel_rfl) rfl #[.agg #[.int .i64 a0_0, .slice A0_1 l0_1.length c0_1]] (by rfl) rfl rfl (by (try simp only [List.map_toArray, List.map_cons, List.map_nil]); first | done | rfl | (simp only [List.length_drop, List.length_take]; rfl)) ?_
   with_reducible refine (zO.calls k a0_0 _ _ l0_1 t599 t600 _ ?side1 ?side2 A19.out).mono ?_
   (case side1 => repeat (first | exact (Kd.zG HR0_1.out HB.out) | (with_reducible refine Kd.zI ?_ _) | (with_reducible refine Kd.zH ?_ _) | (with_reducible refine Kd.zP ?_)))
   (case side2 => exact HC0_1.out)
   rintro e w34 ⟨v601, rfl, ho0, hb⟩
   refine ⟨_, rfl, ?_⟩
   have n0_ := Aside0.mk (Kd.qB ho0 (zk (by repeat (first | (with_reducible first | exact HB.out | apply zc | apply za | apply zb | refine zd ?_ GE595.out | refine zd ?_ GE596.out) | exact HB.out))))
   have n1_ := Aside0.mk (zj (g := gb595) (o := .cells #[.int .i64 a0_0, .slice A0_1 l0_1.length c0_1] 24 (0, 0)) (by (with_reducible repeat (first | refine ze ?_ _ | refine zg ?_ | refine zf ?_ _)); exact BK595.out) hb)
   have n2_ := Aside0.mk (zj (g := gb596) (o := .cells #[.int .i64 a1_0, .slice A1_1 l1_1.length c1_1] 24 (0, 0)) (by (with_reducible repeat (first | refine ze ?_ _ | refine zg ?_ | refine zf ?_ _)); exact BK596.out) hb)
   have n3_ := Aside0.mk (zl (by repeat (first | (with_reducible first | exact HB.out | apply zc | apply za | apply zb | refine zd ?_ GE595.out | refine zd ?_ GE596.out) | exact HB.out)) hb)
   clear BK595
   clear BK596
   clear HB
   have HO602 := n0_
   have BK595 := n1_
   have BK596 := n2_
   have HB := n3_
   clear n0_ n1_ n2_ n3_
   (try clear hb)
   (try clear hb2)
   (try clear hk)
   (try clear hi)
   (try clear ho0)
   refine hK.out _ _ ⟨(zh BK595.out 0).trans rfl, (zh BK595.out 1).trans rfl, (zh BK596.out 0).trans rfl, (zh BK596.out 1).trans rfl⟩ (fun hHeld => ?_)
   clear hK K
   refine jh (a' := ?_) ?_ ?_
   rotate_left
   ·show Act.put _ (some 26) _ = _
    simp only [Act.put, List.setIfInBounds_toArray, List.set_cons_zero, List.set_cons_succ, zm, zn]
    rfl
   refine jJ (i := 3) (N := some 28) #[true, true, true, true, false, false, false, false, false, false, false, false] rfl rfl (qM HT_.out (by kernel_rfl)) (by decide) (fun K hK => ?_)
   refine jB Try.func13 (by kernel_rfl) rfl #[.agg #[.int .i64 a1_0, .slice A1_1 l1_1.length c1_1]] (by rfl) rfl rfl (by (try simp only [List.map_toArray, List.map_cons, List.map_nil]); first | done | rfl | (simp only [List.length_drop, List.length_take]; rfl)) ?_
   with_reducible refine (zO.calls k a1_0 _ _ l1_1 t603 t604 _ ?side1 ?side2 A20.out).mono ?_
   (case side1 => repeat (first | exact (Kd.zG HR1_1.out HB.out) | (with_reducible refine Kd.zI ?_ _) | (with_reducible refine Kd.zH ?_ _) | (with_reducible refine Kd.zP ?_)))
   (case side2 => exact HC1_1.out)
   rintro e w35 ⟨v605, rfl, ho0, hb⟩
   refine ⟨_, rfl, ?_⟩
   have n0_ := Aside0.mk (Kd.jo (by (with_reducible repeat (first | apply Kd.zw | apply Kd.zx | apply Kd.zz)); exact HO602.out) (Kd.jY ho0) hb)
   have n1_ := Aside0.mk (Kd.qB (Kd.jX ho0 (Kd.vL (by (with_reducible repeat (first | apply Kd.zw | apply Kd.zx | apply Kd.zz)); exact HO602.out))) (zk (by repeat (first | (with_reducible first | exact HB.out | apply zc | apply za | apply zb | refine zd ?_ GE595.out | refine zd ?_ GE596.out) | exact HB.out))))
   have n2_ := Aside0.mk (zj (g := gb595) (o := .cells #[.int .i64 a0_0, .slice A0_1 l0_1.length c0_1] 24 (0, 0)) (by (with_reducible repeat (first | refine ze ?_ _ | refine zg ?_ | refine zf ?_ _)); exact BK595.out) hb)
   have n3_ := Aside0.mk (zj (g := gb596) (o := .cells #[.int .i64 a1_0, .slice A1_1 l1_1.length c1_1] 24 (0, 0)) (by (with_reducible repeat (first | refine ze ?_ _ | refine zg ?_ | refine zf ?_ _)); exact BK596.out) hb)
   have n4_ := Aside0.mk (zl (by repeat (first | (with_reducible first | exact HB.out | apply zc | apply za | apply zb | refine zd ?_ GE595.out | refine zd ?_ GE596.out) | exact HB.out)) hb)
   clear HO602
   clear BK595
   clear BK596
   clear HB
   have HO602 := n0_
   have HO606 := n1_
   have BK595 := n2_
   have BK596 := n3_
   have HB := n4_
   clear n0_ n1_ n2_ n3_ n4_
   (try clear hb)
   (try clear hb2)
   (try clear hk)
   (try clear hi)
   (try clear ho0)
   obtain ⟨Ao36, co36, eo36⟩ := Kd.qo HO602.out
   (first | subst eo36 | (injection eo36 with f1_ f2_ f3_; have f4_ := f1_.symm; have f5_ := f3_.symm; clear f1_ f2_ f3_; subst f4_; subst f5_))
   obtain ⟨Ao37, co37, eo37⟩ := Kd.qo HO606.out
   (first | subst eo37 | (injection eo37 with f1_ f2_ f3_; have f4_ := f1_.symm; have f5_ := f3_.symm; clear f1_ f2_ f3_; subst f4_; subst f5_))
   refine hK.out _ _ ⟨(zh BK595.out 0).trans rfl, (zh BK595.out 1).trans rfl, (zh BK596.out 0).trans rfl, (zh BK596.out 1).trans rfl⟩ (fun hHeld => ?_)
   clear hK K
   refine jh (a' := ?_) ?_ ?_
   rotate_left
   ·show Act.put _ (some 28) _ = _
    simp only [Act.put, List.setIfInBounds_toArray, List.set_cons_zero, List.set_cons_succ, zm, zn]
    rfl
   refine jJ (i := 4) (N := some 29) #[true, true, true, true, true, false, false, false, false, false, false, false] rfl rfl (qM HT_.out (by kernel_rfl)) (by decide) (fun K hK => ?_)
   refine jB Try.func24 (by kernel_rfl) rfl #[.agg #[.int .i64 t599, .slice Ao36 t600.length co36], .agg #[.int .i64 t603, .slice Ao37 t604.length co37]] (by rfl) rfl rfl (by (try simp only [List.map_toArray, List.map_cons, List.map_nil]); first | done | rfl | (simp only [List.length_drop, List.length_take]; rfl)) ?_
   with_reducible refine (zy.calls k t599 _ _ t600 t603 _ _ t604 t607 t608 t609 _ ?side1 ?side2 ?side3 ?side4 A21.out).mono ?_
   (case side1 => repeat (first | exact (Kd.zS HO602.out).2.2 | (with_reducible refine Kd.zI ?_ _) | (with_reducible refine Kd.zH ?_ _) | (with_reducible refine Kd.zP ?_)))
   (case side2 => exact (Kd.zS HO602.out).2.1)
   (case side3 => repeat (first | exact (Kd.zS HO606.out).2.2 | (with_reducible refine Kd.zI ?_ _) | (with_reducible refine Kd.zH ?_ _) | (with_reducible refine Kd.zP ?_)))
   (case side4 => exact (Kd.zS HO606.out).2.1)
   rintro e w38 ⟨rfl, hb⟩
   refine ⟨_, rfl, ?_⟩
   have n0_ := Aside0.mk (Kd.qq (by (with_reducible repeat (first | apply Kd.zw | apply Kd.zx | apply Kd.zz)); exact HO602.out) hb)
   have n1_ := Aside0.mk (Kd.qq (by (with_reducible repeat (first | apply Kd.zw | apply Kd.zx | apply Kd.zz)); exact HO606.out) hb)
   have n2_ := Aside0.mk (zj (g := gb595) (o := .cells #[.int .i64 a0_0, .slice A0_1 l0_1.length c0_1] 24 (0, 0)) (by (with_reducible repeat (first | refine ze ?_ _ | refine zg ?_ | refine zf ?_ _)); exact BK595.out) hb)
   have n3_ := Aside0.mk (zj (g := gb596) (o := .cells #[.int .i64 a1_0, .slice A1_1 l1_1.length c1_1] 24 (0, 0)) (by (with_reducible repeat (first | refine ze ?_ _ | refine zg ?_ | refine zf ?_ _)); exact BK596.out) hb)
   have n4_ := Aside0.mk (zl (by repeat (first | (with_reducible first | exact HB.out | apply zc | apply za | apply zb | refine zd ?_ GE595.out | refine zd ?_ GE596.out) | exact HB.out)) hb)
   clear HO602
   clear HO606
   clear BK595
   clear BK596
   clear HB
   have HO602 := n0_
   have HO606 := n1_
   have BK595 := n2_
   have BK596 := n3_
   have HB := n4_
   clear n0_ n1_ n2_ n3_ n4_
   (try clear hb)
   (try clear hb2)
   (try clear hk)
   (try clear hi)
   refine hK.out _ _ ⟨(zh BK595.out 0).trans rfl, (zh BK595.out 1).trans rfl, (zh BK596.out 0).trans rfl, (zh BK596.out 1).trans rfl⟩ (fun hHeld => ?_)
   clear hK K
   refine jh (a' := ?_) ?_ ?_
   rotate_left
   ·show Act.put _ (some 29) _ = _
    simp only [Act.put, List.setIfInBounds_toArray, List.set_cons_zero, List.set_cons_succ, zm, zn]
    rfl
   refine zE (i := 5) (N := some 24) (v := ?_) (a' := ?_) #[true, true, true, true, true, true, false, false, false, false, false, false] rfl rfl (zr HT_.out (by kernel_rfl)) (fun _ _ _ h => h) (Or.inl ⟨by rfl, ?_⟩) ?_ ?_
   rotate_left
   ·intro w'
    go_simp
    with_reducible rfl
   rotate_left
   ·simp only [Act.put, List.setIfInBounds_toArray, List.set_cons_zero, List.set_cons_succ, zm, zn]
    rfl
   refine zE (i := 6) (N := some 30) (v := ?_) (a' := ?_) #[true, true, true, true, true, true, true, false, false, false, false, false] rfl rfl (zr HT_.out (by kernel_rfl)) (fun _ _ _ h => h) (Or.inl ⟨by rfl, ?_⟩) ?_ ?_
   rotate_left
   ·intro w'
    go_simp
    with_reducible rfl
   rotate_left
   ·simp only [Act.put, List.setIfInBounds_toArray, List.set_cons_zero, List.set_cons_succ, zm, zn]
    rfl
   refine zE (i := 7) (N := some 31) (v := ?_) (a' := ?_) #[true, true, true, true, true, true, true, true, false, false, false, false] rfl rfl (zr HT_.out (by kernel_rfl)) (fun _ _ _ h => h) (Or.inl ⟨by rfl, ?_⟩) ?_ ?_
   rotate_left
   ·intro w'
    go_simp
    with_reducible rfl
   rotate_left
   ·simp only [Act.put, List.setIfInBounds_toArray, List.set_cons_zero, List.set_cons_succ, zm, zn]
    rfl
   refine zE (i := 8) (N := some 32) (v := ?_) (a' := ?_) #[true, true, true, true, true, true, true, true, true, false, false, false] rfl rfl (zr HT_.out (by kernel_rfl)) (fun _ _ _ h => h) (Or.inl ⟨by rfl, ?_⟩) ?_ ?_
   rotate_left
   ·intro w'
    go_simp
    with_reducible rfl
   rotate_left
   ·simp only [Act.put, List.setIfInBounds_toArray, List.set_cons_zero, List.set_cons_succ, zm, zn]
    rfl
   refine zE (i := 9) (N := some 6) (v := ?_) (a' := ?_) #[true, true, true, true, true, true, true, true, true, true, false, false] rfl rfl (zr HT_.out (by kernel_rfl)) (fun _ _ _ h => h) (Or.inl ⟨by rfl, ?_⟩) ?_ ?_
   rotate_left
   ·intro w'
    go_simp
    with_reducible rfl
   rotate_left
   ·simp only [Act.put, List.setIfInBounds_toArray, List.set_cons_zero, List.set_cons_succ, zm, zn]
    rfl
   refine zE (i := 10) (N := some 7) (v := ?_) (a' := ?_) #[true, true, true, true, true, true, true, true, true, true, true, false] rfl rfl (zr HT_.out (by kernel_rfl)) (fun _ _ _ h => h) (Or.inl ⟨by rfl, ?_⟩) ?_ ?_
   rotate_left
   ·intro w'
    go_simp
    with_reducible rfl
   rotate_left
   ·simp only [Act.put, List.setIfInBounds_toArray, List.set_cons_zero, List.set_cons_succ, zm, zn]
    rfl
   refine zE (i := 11) (N := some 8) (v := ?_) (a' := ?_) #[true, true, true, true, true, true, true, true, true, true, true, true] rfl rfl (zr HT_.out (by kernel_rfl)) (fun _ _ _ h => h) (Or.inl ⟨by rfl, ?_⟩) ?_ ?_
   rotate_left
   ·intro w'
    go_simp
    with_reducible rfl
   rotate_left
   ·simp only [Act.put, List.setIfInBounds_toArray, List.set_cons_zero, List.set_cons_succ, zm, zn]
    rfl
   refine j4 (jm HT_.out (by kernel_rfl)) ?_
   have hcz39_0 : w38.cell? ⟨gb595, 0, none⟩ = some (.int .i64 a0_0) := (zh BK595.out 0).trans rfl
   have hcz39_1 : w38.cell? ⟨gb595, 1, none⟩ = some (.slice A0_1 l0_1.length c0_1) := (zh BK595.out 1).trans rfl
   have hfz39_0 := zi BK595.out 0
   have hfz39_1 := zi BK595.out 1
   go_upto_region 12 with (first | ((with_reducible refine zo (f := 13) rfl ?_); refine zL (some 34) rfl rfl Try.func13 (by kernel_rfl) rfl #[.agg #[.int .i64 a0_0, .slice A0_1 l0_1.length c0_1]] rfl (by (try simp only [List.map_toArray, List.map_cons, List.map_nil]); first | done | rfl | (simp only [List.length_drop, List.length_take]; rfl)) ?_; (with_reducible refine (zO.calls k a0_0 _ _ l0_1 t610 t611 _ ?side1 ?side2 A22.out).mono ?_); (case side1 => repeat (first | exact (Kd.zG HR0_1.out HB.out) | (with_reducible refine Kd.zI ?_ _) | (with_reducible refine Kd.zH ?_ _) | (with_reducible refine Kd.zP ?_))); (case side2 => exact HC0_1.out); rintro e w40 ⟨v612, rfl, ho0, hb⟩; refine ⟨_, rfl, ?_⟩; have n0_ := Aside0.mk (Kd.jo (by (with_reducible repeat (first | apply Kd.zw | apply Kd.zx | apply Kd.zz)); exact HO602.out) (Kd.jY ho0) hb); have n1_ := Aside0.mk (Kd.jo (by (with_reducible repeat (first | apply Kd.zw | apply Kd.zx | apply Kd.zz)); exact HO606.out) (Kd.jY ho0) hb); have n2_ := Aside0.mk (Kd.qB (Kd.jX (Kd.jX ho0 (Kd.vL (by (with_reducible repeat (first | apply Kd.zw | apply Kd.zx | apply Kd.zz)); exact HO602.out))) (Kd.vL (by (with_reducible repeat (first | apply Kd.zw | apply Kd.zx | apply Kd.zz)); exact HO606.out))) (zk (by repeat (first | (with_reducible first | exact HB.out | apply zc | apply za | apply zb | refine zd ?_ GE595.out | refine zd ?_ GE596.out) | exact HB.out)))); have n3_ := Aside0.mk (zj (g := gb595) (o := .cells #[.int .i64 a0_0, .slice A0_1 l0_1.length c0_1] 24 (0, 0)) (by (with_reducible repeat (first | refine ze ?_ _ | refine zg ?_ | refine zf ?_ _)); exact BK595.out) hb); have n4_ := Aside0.mk (zj (g := gb596) (o := .cells #[.int .i64 a1_0, .slice A1_1 l1_1.length c1_1] 24 (0, 0)) (by (with_reducible repeat (first | refine ze ?_ _ | refine zg ?_ | refine zf ?_ _)); exact BK596.out) hb); have n5_ := Aside0.mk (zl (by repeat (first | (with_reducible first | exact HB.out | apply zc | apply za | apply zb | refine zd ?_ GE595.out | refine zd ?_ GE596.out) | exact HB.out)) hb); clear HO602; clear HO606; clear BK595; clear BK596; clear HB; have HO602 := n0_; have HO606 := n1_; have HO613 := n2_; have BK595 := n3_; have BK596 := n4_; have HB := n5_; clear n0_ n1_ n2_ n3_ n4_ n5_; (try clear hb); (try clear hb2); (try clear hk); (try clear hi); (try clear ho0)) | ((with_reducible refine zD (N := 9) rfl ?_); refine zA ?hg (N := 9) ?hd (cs := #[.int .i64 0, .slice none 0 0]) (t := 26) ?hr ?_; (case hd => rfl); (case hg => rfl); (case hr => first | (go_simp; done) | (go_simp; rfl)); intro gb614 hg w41 hbox hb; have n0_ := Aside0.mk (Kd.qq (by (with_reducible repeat (first | apply Kd.zw | apply Kd.zx | apply Kd.zz)); exact HO602.out) hb); have n1_ := Aside0.mk (Kd.qq (by (with_reducible repeat (first | apply Kd.zw | apply Kd.zx | apply Kd.zz)); exact HO606.out) hb); have n2_ := Aside0.mk (Kd.qq (by (with_reducible repeat (first | apply Kd.zw | apply Kd.zx | apply Kd.zz)); exact HO613.out) hb); have n3_ := Aside0.mk (zj (g := gb595) (o := .cells #[.int .i64 a0_0, .slice A0_1 l0_1.length c0_1] 24 (0, 0)) (by (with_reducible repeat (first | refine ze ?_ _ | refine zg ?_ | refine zf ?_ _)); exact BK595.out) hb); have n4_ := Aside0.mk (zj (g := gb596) (o := .cells #[.int .i64 a1_0, .slice A1_1 l1_1.length c1_1] 24 (0, 0)) (by (with_reducible repeat (first | refine ze ?_ _ | refine zg ?_ | refine zf ?_ _)); exact BK596.out) hb); have n5_ := Aside0.mk (zl (by repeat (first | (with_reducible first | exact HB.out | apply zc | apply za | apply zb | refine zd ?_ GE595.out | refine zd ?_ GE596.out) | exact HB.out)) hb); have n6_ := Aside0.mk (hbox); have n7_ := Aside0.mk ((by rw [hg]; exact (zk (by repeat (first | (with_reducible first | exact HB.out | apply zc | apply za | apply zb | refine zd ?_ GE595.out | refine zd ?_ GE596.out) | exact HB.out))) : w.heap.size ≤ gb614)); have n8_ := Aside0.mk ((by rw [hg]; exact (zk (by repeat (first | (with_reducible first | exact HB.out | apply zc | apply za | apply zb | refine zd ?_ GE595.out | refine zd ?_ GE596.out) | exact HB.out))) : w.heap.size ≤ gb614)); have n9_ := Aside0.mk ((by rw [hg]; exact Nat.ne_of_lt (zM (g := gb595) (o := .cells #[.int .i64 a0_0, .slice A0_1 l0_1.length c0_1] 24 (0, 0)) (by (with_reducible repeat (first | refine ze ?_ _ | refine zg ?_ | refine zf ?_ _)); exact BK595.out)) : gb595 ≠ gb614)); have n10_ := Aside0.mk ((by rw [hg]; exact Nat.ne_of_gt (zM (g := gb595) (o := .cells #[.int .i64 a0_0, .slice A0_1 l0_1.length c0_1] 24 (0, 0)) (by (with_reducible repeat (first | refine ze ?_ _ | refine zg ?_ | refine zf ?_ _)); exact BK595.out)) : gb614 ≠ gb595)); have n11_ := Aside0.mk ((by rw [hg]; exact Nat.ne_of_lt (zM (g := gb596) (o := .cells #[.int .i64 a1_0, .slice A1_1 l1_1.length c1_1] 24 (0, 0)) (by (with_reducible repeat (first | refine ze ?_ _ | refine zg ?_ | refine zf ?_ _)); exact BK596.out)) : gb596 ≠ gb614)); have n12_ := Aside0.mk ((by rw [hg]; exact Nat.ne_of_gt (zM (g := gb596) (o := .cells #[.int .i64 a1_0, .slice A1_1 l1_1.length c1_1] 24 (0, 0)) (by (with_reducible repeat (first | refine ze ?_ _ | refine zg ?_ | refine zf ?_ _)); exact BK596.out)) : gb614 ≠ gb596)); clear HO602; clear HO606; clear HO613; clear BK595; clear BK596; clear HB; have HO602 := n0_; have HO606 := n1_; have HO613 := n2_; have BK595 := n3_; have BK596 := n4_; have HB := n5_; have BK614 := n6_; have GW614 := n7_; have GE614 := n8_; have NB595_614 := n9_; have NB614_595 := n10_; have NB596_614 := n11_; have NB614_596 := n12_; clear n0_ n1_ n2_ n3_ n4_ n5_ n6_ n7_ n8_ n9_ n10_ n11_ n12_; clear hb hbox hg; have hnb42 := NB614_595.out; have hnc42 := NB595_614.out; have hnb43 := NB614_596.out; have hnc43 := NB596_614.out; have hcz44_0 : w41.cell? ⟨gb614, 0, none⟩ = some (.int .i64 0) := (zh BK614.out 0).trans rfl; have hcz44_1 : w41.cell? ⟨gb614, 1, none⟩ = some (.slice none 0 0) := (zh BK614.out 1).trans rfl; have hfz44_0 := zi BK614.out 0; have hfz44_1 := zi BK614.out 1; obtain ⟨Ao45, co45, eo45⟩ := Kd.qo HO613.out; subst eo45; have hcz46_0 : w41.cell? ⟨gb596, 0, none⟩ = some (.int .i64 a1_0) := (zh BK596.out 0).trans rfl; have hcz46_1 : w41.cell? ⟨gb596, 1, none⟩ = some (.slice A1_1 l1_1.length c1_1) := (zh BK596.out 1).trans rfl; have hfz46_0 := zi BK596.out 0; have hfz46_1 := zi BK596.out 1) | ((with_reducible refine zo (f := 13) rfl ?_); refine zL (some 36) rfl rfl Try.func13 (by kernel_rfl) rfl #[.agg #[.int .i64 a1_0, .slice A1_1 l1_1.length c1_1]] rfl (by (try simp only [List.map_toArray, List.map_cons, List.map_nil]); first | done | rfl | (simp only [List.length_drop, List.length_take]; rfl)) ?_; (with_reducible refine (zO.calls k a1_0 _ _ l1_1 t615 t616 _ ?side1 ?side2 A23.out).mono ?_); (case side1 => exact Kd.zG HR1_1.out (by repeat (first | (with_reducible first | exact HB.out | apply zc | apply za | apply zb | refine zd ?_ GE595.out | refine zd ?_ GE596.out | refine zd ?_ GE614.out) | exact HB.out))); (case side2 => exact HC1_1.out); rintro e w47 ⟨v617, rfl, ho0, hb⟩; refine ⟨_, rfl, ?_⟩; have n0_ := Aside0.mk (Kd.jo (by (with_reducible repeat (first | apply Kd.zw | apply Kd.zx | apply Kd.zz)); exact (Kd.qn (Kd.qx (p := ⟨gb614, 1, none⟩) (Kd.qx (p := ⟨gb614, 0, none⟩) (Kd.qG HO602.out BK614.out (by decide)) (fun _ hk => hk.2) (.int .i64 t610)) (fun _ hk => hk.2) (.slice Ao45 t611.length co45)) (fun _ h_ => h_.1))) (Kd.jY ho0) hb); have n1_ := Aside0.mk (Kd.jo (by (with_reducible repeat (first | apply Kd.zw | apply Kd.zx | apply Kd.zz)); exact (Kd.qn (Kd.qx (p := ⟨gb614, 1, none⟩) (Kd.qx (p := ⟨gb614, 0, none⟩) (Kd.qG HO606.out BK614.out (by decide)) (fun _ hk => hk.2) (.int .i64 t610)) (fun _ hk => hk.2) (.slice Ao45 t611.length co45)) (fun _ h_ => h_.1))) (Kd.jY ho0) hb); have n2_ := Aside0.mk (Kd.jo (by (with_reducible repeat (first | apply Kd.zw | apply Kd.zx | apply Kd.zz)); exact (Kd.qn (Kd.qx (p := ⟨gb614, 1, none⟩) (Kd.qx (p := ⟨gb614, 0, none⟩) (Kd.qG HO613.out BK614.out (by decide)) (fun _ hk => hk.2) (.int .i64 t610)) (fun _ hk => hk.2) (.slice Ao45 t611.length co45)) (fun _ h_ => h_.1))) (Kd.jY ho0) hb); have n3_ := Aside0.mk (Kd.qB (Kd.jX (Kd.jX (Kd.jX ho0 (Kd.vL (by (with_reducible repeat (first | apply Kd.zw | apply Kd.zx | apply Kd.zz)); exact (Kd.qn (Kd.qx (p := ⟨gb614, 1, none⟩) (Kd.qx (p := ⟨gb614, 0, none⟩) (Kd.qG HO602.out BK614.out (by decide)) (fun _ hk => hk.2) (.int .i64 t610)) (fun _ hk => hk.2) (.slice Ao45 t611.length co45)) (fun _ h_ => h_.1))))) (Kd.vL (by (with_reducible repeat (first | apply Kd.zw | apply Kd.zx | apply Kd.zz)); exact (Kd.qn (Kd.qx (p := ⟨gb614, 1, none⟩) (Kd.qx (p := ⟨gb614, 0, none⟩) (Kd.qG HO606.out BK614.out (by decide)) (fun _ hk => hk.2) (.int .i64 t610)) (fun _ hk => hk.2) (.slice Ao45 t611.length co45)) (fun _ h_ => h_.1))))) (Kd.vL (by (with_reducible repeat (first | apply Kd.zw | apply Kd.zx | apply Kd.zz)); exact (Kd.qn (Kd.qx (p := ⟨gb614, 1, none⟩) (Kd.qx (p := ⟨gb614, 0, none⟩) (Kd.qG HO613.out BK614.out (by decide)) (fun _ hk => hk.2) (.int .i64 t610)) (fun _ hk => hk.2) (.slice Ao45 t611.length co45)) (fun _ h_ => h_.1))))) (zk (by repeat (first | (with_reducible first | exact HB.out | apply zc | apply za | apply zb | refine zd ?_ GE595.out | refine zd ?_ GE596.out | refine zd ?_ GE614.out) | exact HB.out)))); have n4_ := Aside0.mk (zj (g := gb595) (o := .cells #[.int .i64 a0_0, .slice A0_1 l0_1.length c0_1] 24 (0, 0)) (by (with_reducible repeat (first | refine ze ?_ _ | refine zg ?_ | refine zf ?_ _)); refine qw ?_ NB595_614.out _; (with_reducible repeat (first | refine ze ?_ _ | refine zg ?_ | refine zf ?_ _)); refine qw ?_ NB595_614.out _; (with_reducible repeat (first | refine ze ?_ _ | refine zg ?_ | refine zf ?_ _)); exact BK595.out) hb); have n5_ := Aside0.mk (zj (g := gb596) (o := .cells #[.int .i64 a1_0, .slice A1_1 l1_1.length c1_1] 24 (0, 0)) (by (with_reducible repeat (first | refine ze ?_ _ | refine zg ?_ | refine zf ?_ _)); refine qw ?_ NB596_614.out _; (with_reducible repeat (first | refine ze ?_ _ | refine zg ?_ | refine zf ?_ _)); refine qw ?_ NB596_614.out _; (with_reducible repeat (first | refine ze ?_ _ | refine zg ?_ | refine zf ?_ _)); exact BK596.out) hb); have n6_ := Aside0.mk (zj (g := gb614) (o := .cells #[.int .i64 t610, .slice Ao45 t611.length co45] 26 (0, 0)) (by (with_reducible repeat (first | refine ze ?_ _ | refine zg ?_ | refine zf ?_ _)); refine zV (cs := #[.int .i64 t610, .slice none 0 0]) ?_ 1 _ rfl; (with_reducible repeat (first | refine ze ?_ _ | refine zg ?_ | refine zf ?_ _)); refine zV (cs := #[.int .i64 0, .slice none 0 0]) ?_ 0 _ rfl; (with_reducible repeat (first | refine ze ?_ _ | refine zg ?_ | refine zf ?_ _)); exact BK614.out) hb); have n7_ := Aside0.mk (zl (by repeat (first | (with_reducible first | exact HB.out | apply zc | apply za | apply zb | refine zd ?_ GE595.out | refine zd ?_ GE596.out | refine zd ?_ GE614.out) | exact HB.out)) hb); clear HO602; clear HO606; clear HO613; clear BK595; clear BK596; clear BK614; clear HB; have HO602 := n0_; have HO606 := n1_; have HO613 := n2_; have HO618 := n3_; have BK595 := n4_; have BK596 := n5_; have BK614 := n6_; have HB := n7_; clear n0_ n1_ n2_ n3_ n4_ n5_ n6_ n7_; (try clear hb); (try clear hb2); (try clear hk); (try clear hi); (try clear ho0)) | ((with_reducible refine zD (N := 10) rfl ?_); refine zA ?hg (N := 10) ?hd (cs := #[.int .i64 0, .slice none 0 0]) (t := 26) ?hr ?_; (case hd => rfl); (case hg => rfl); (case hr => first | (go_simp; done) | (go_simp; rfl)); intro gb619 hg w48 hbox hb; have n0_ := Aside0.mk (Kd.qq (by (with_reducible repeat (first | apply Kd.zw | apply Kd.zx | apply Kd.zz)); exact HO602.out) hb); have n1_ := Aside0.mk (Kd.qq (by (with_reducible repeat (first | apply Kd.zw | apply Kd.zx | apply Kd.zz)); exact HO606.out) hb); have n2_ := Aside0.mk (Kd.qq (by (with_reducible repeat (first | apply Kd.zw | apply Kd.zx | apply Kd.zz)); exact HO613.out) hb); have n3_ := Aside0.mk (Kd.qq (by (with_reducible repeat (first | apply Kd.zw | apply Kd.zx | apply Kd.zz)); exact HO618.out) hb); have n4_ := Aside0.mk (zj (g := gb595) (o := .cells #[.int .i64 a0_0, .slice A0_1 l0_1.length c0_1] 24 (0, 0)) (by (with_reducible repeat (first | refine ze ?_ _ | refine zg ?_ | refine zf ?_ _)); exact BK595.out) hb); have n5_ := Aside0.mk (zj (g := gb596) (o := .cells #[.int .i64 a1_0, .slice A1_1 l1_1.length c1_1] 24 (0, 0)) (by (with_reducible repeat (first | refine ze ?_ _ | refine zg ?_ | refine zf ?_ _)); exact BK596.out) hb); have n6_ := Aside0.mk (zj (g := gb614) (o := .cells #[.int .i64 t610, .slice Ao45 t611.length co45] 26 (0, 0)) (by (with_reducible repeat (first | refine ze ?_ _ | refine zg ?_ | refine zf ?_ _)); exact BK614.out) hb); have n7_ := Aside0.mk (zl (by repeat (first | (with_reducible first | exact HB.out | apply zc | apply za | apply zb | refine zd ?_ GE595.out | refine zd ?_ GE596.out | refine zd ?_ GE614.out) | exact HB.out)) hb); have n8_ := Aside0.mk (hbox); have n9_ := Aside0.mk ((by rw [hg]; exact (zk (by repeat (first | (with_reducible first | exact HB.out | apply zc | apply za | apply zb | refine zd ?_ GE595.out | refine zd ?_ GE596.out | refine zd ?_ GE614.out) | exact HB.out))) : w.heap.size ≤ gb619)); have n10_ := Aside0.mk ((by rw [hg]; exact (zk (by repeat (first | (with_reducible first | exact HB.out | apply zc | apply za | apply zb | refine zd ?_ GE595.out | refine zd ?_ GE596.out | refine zd ?_ GE614.out) | exact HB.out))) : w.heap.size ≤ gb619)); have n11_ := Aside0.mk ((by rw [hg]; exact Nat.ne_of_lt (zM (g := gb595) (o := .cells #[.int .i64 a0_0, .slice A0_1 l0_1.length c0_1] 24 (0, 0)) (by (with_reducible repeat (first | refine ze ?_ _ | refine zg ?_ | refine zf ?_ _)); exact BK595.out)) : gb595 ≠ gb619)); have n12_ := Aside0.mk ((by rw [hg]; exact Nat.ne_of_gt (zM (g := gb595) (o := .cells #[.int .i64 a0_0, .slice A0_1 l0_1.length c0_1] 24 (0, 0)) (by (with_reducible repeat (first | refine ze ?_ _ | refine zg ?_ | refine zf ?_ _)); exact BK595.out)) : gb619 ≠ gb595)); have n13_ := Aside0.mk ((by rw [hg]; exact Nat.ne_of_lt (zM (g := gb596) (o := .cells #[.int .i64 a1_0, .slice A1_1 l1_1.length c1_1] 24 (0, 0)) (by (with_reducible repeat (first | refine ze ?_ _ | refine zg ?_ | refine zf ?_ _)); exact BK596.out)) : gb596 ≠ gb619)); have n14_ := Aside0.mk ((by rw [hg]; exact Nat.ne_of_gt (zM (g := gb596) (o := .cells #[.int .i64 a1_0, .slice A1_1 l1_1.length c1_1] 24 (0, 0)) (by (with_reducible repeat (first | refine ze ?_ _ | refine zg ?_ | refine zf ?_ _)); exact BK596.out)) : gb619 ≠ gb596)); have n15_ := Aside0.mk ((by rw [hg]; exact Nat.ne_of_lt (zM (g := gb614) (o := .cells #[.int .i64 t610, .slice Ao45 t611.length co45] 26 (0, 0)) (by (with_reducible repeat (first | refine ze ?_ _ | refine zg ?_ | refine zf ?_ _)); exact BK614.out)) : gb614 ≠ gb619)); have n16_ := Aside0.mk ((by rw [hg]; exact Nat.ne_of_gt (zM (g := gb614) (o := .cells #[.int .i64 t610, .slice Ao45 t611.length co45] 26 (0, 0)) (by (with_reducible repeat (first | refine ze ?_ _ | refine zg ?_ | refine zf ?_ _)); exact BK614.out)) : gb619 ≠ gb614)); clear HO602; clear HO606; clear HO613; clear HO618; clear BK595; clear BK596; clear BK614; clear HB; have HO602 := n0_; have HO606 := n1_; have HO613 := n2_; have HO618 := n3_; have BK595 := n4_; have BK596 := n5_; have BK614 := n6_; have HB := n7_; have BK619 := n8_; have GW619 := n9_; have GE619 := n10_; have NB595_619 := n11_; have NB619_595 := n12_; have NB596_619 := n13_; have NB619_596 := n14_; have NB614_619 := n15_; have NB619_614 := n16_; clear n0_ n1_ n2_ n3_ n4_ n5_ n6_ n7_ n8_ n9_ n10_ n11_ n12_ n13_ n14_ n15_ n16_; clear hb hbox hg; have hnb49 := NB619_595.out; have hnc49 := NB595_619.out; have hnb50 := NB619_596.out; have hnc50 := NB596_619.out; have hnb51 := NB619_614.out; have hnc51 := NB614_619.out; have hcz52_0 : w48.cell? ⟨gb619, 0, none⟩ = some (.int .i64 0) := (zh BK619.out 0).trans rfl; have hcz52_1 : w48.cell? ⟨gb619, 1, none⟩ = some (.slice none 0 0) := (zh BK619.out 1).trans rfl; have hfz52_0 := zi BK619.out 0; have hfz52_1 := zi BK619.out 1; obtain ⟨Ao53, co53, eo53⟩ := Kd.qo HO618.out; subst eo53; have hcz54_0 : w48.cell? ⟨gb614, 0, none⟩ = some (.int .i64 t610) := (zh BK614.out 0).trans rfl; have hcz54_1 : w48.cell? ⟨gb614, 1, none⟩ = some (.slice Ao45 t611.length co45) := (zh BK614.out 1).trans rfl; have hfz54_0 := zi BK614.out 0; have hfz54_1 := zi BK614.out 1) | ((with_reducible refine zo (f := 25) rfl ?_); refine zL (some 40) rfl rfl Try.func25 (by kernel_rfl) rfl #[.agg #[.int .i64 t610, .slice Ao45 t611.length co45], .agg #[.int .i64 t615, .slice Ao53 t616.length co53]] rfl (by (try simp only [List.map_toArray, List.map_cons, List.map_nil]); first | done | rfl | (simp only [List.length_drop, List.length_take]; rfl)) ?_; (with_reducible refine (zp.calls k t610 _ _ t611 t615 _ _ t616 t620 t621 t622 _ ?side1 ?side2 ?side3 ?side4 A24.out).mono ?_); (case side1 => refine (Kd.zS (e := 3) (base := w.heap.size) (ok := fun k_ => (((True ∧ some k_ ≠ (.slice Ao36 t600.length co36 : Value).ownBlock) ∧ some k_ ≠ (.slice Ao37 t604.length co37 : Value).ownBlock) ∧ some k_ ≠ (.slice Ao53 t616.length co53 : Value).ownBlock)) (n := t611.length) (c := co45) ?_).2.2; exact (by (with_reducible repeat (first | apply Kd.zw | apply Kd.zx | apply Kd.zz)); exact (Kd.qn (Kd.qx (p := ⟨gb619, 1, none⟩) (Kd.qx (p := ⟨gb619, 0, none⟩) (Kd.qG HO613.out BK619.out (by decide)) (fun _ hk => hk.2) (.int .i64 t615)) (fun _ hk => hk.2) (.slice Ao53 t616.length co53)) (fun _ h_ => h_.1)))); (case side2 => exact (Kd.zS HO613.out).2.1); (case side3 => refine (Kd.zS (e := 3) (base := w.heap.size) (ok := fun k_ => (((True ∧ some k_ ≠ (.slice Ao36 t600.length co36 : Value).ownBlock) ∧ some k_ ≠ (.slice Ao37 t604.length co37 : Value).ownBlock) ∧ some k_ ≠ (.slice Ao45 t611.length co45 : Value).ownBlock)) (n := t616.length) (c := co53) ?_).2.2; exact (by (with_reducible repeat (first | apply Kd.zw | apply Kd.zx | apply Kd.zz)); exact (Kd.qn (Kd.qx (p := ⟨gb619, 1, none⟩) (Kd.qx (p := ⟨gb619, 0, none⟩) (Kd.qG HO618.out BK619.out (by decide)) (fun _ hk => hk.2) (.int .i64 t615)) (fun _ hk => hk.2) (.slice Ao53 t616.length co53)) (fun _ h_ => h_.1)))); (case side4 => exact (Kd.zS HO618.out).2.1); rintro e w55 ⟨rfl, hb⟩; refine ⟨_, rfl, ?_⟩; have n0_ := Aside0.mk (Kd.qq (by (with_reducible repeat (first | apply Kd.zw | apply Kd.zx | apply Kd.zz)); exact (Kd.qn (Kd.qx (p := ⟨gb619, 1, none⟩) (Kd.qx (p := ⟨gb619, 0, none⟩) (Kd.qG HO602.out BK619.out (by decide)) (fun _ hk => hk.2) (.int .i64 t615)) (fun _ hk => hk.2) (.slice Ao53 t616.length co53)) (fun _ h_ => h_.1))) hb); have n1_ := Aside0.mk (Kd.qq (by (with_reducible repeat (first | apply Kd.zw | apply Kd.zx | apply Kd.zz)); exact (Kd.qn (Kd.qx (p := ⟨gb619, 1, none⟩) (Kd.qx (p := ⟨gb619, 0, none⟩) (Kd.qG HO606.out BK619.out (by decide)) (fun _ hk => hk.2) (.int .i64 t615)) (fun _ hk => hk.2) (.slice Ao53 t616.length co53)) (fun _ h_ => h_.1))) hb); have n2_ := Aside0.mk (Kd.qq (by (with_reducible repeat (first | apply Kd.zw | apply Kd.zx | apply Kd.zz)); exact (Kd.qn (Kd.qx (p := ⟨gb619, 1, none⟩) (Kd.qx (p := ⟨gb619, 0, none⟩) (Kd.qG HO613.out BK619.out (by decide)) (fun _ hk => hk.2) (.int .i64 t615)) (fun _ hk => hk.2) (.slice Ao53 t616.length co53)) (fun _ h_ => h_.1))) hb); have n3_ := Aside0.mk (Kd.qq (by (with_reducible repeat (first | apply Kd.zw | apply Kd.zx | apply Kd.zz)); exact (Kd.qn (Kd.qx (p := ⟨gb619, 1, none⟩) (Kd.qx (p := ⟨gb619, 0, none⟩) (Kd.qG HO618.out BK619.out (by decide)) (fun _ hk => hk.2) (.int .i64 t615)) (fun _ hk => hk.2) (.slice Ao53 t616.length co53)) (fun _ h_ => h_.1))) hb); have n4_ := Aside0.mk (zj (g := gb595) (o := .cells #[.int .i64 a0_0, .slice A0_1 l0_1.length c0_1] 24 (0, 0)) (by (with_reducible repeat (first | refine ze ?_ _ | refine zg ?_ | refine zf ?_ _)); refine qw ?_ NB595_619.out _; (with_reducible repeat (first | refine ze ?_ _ | refine zg ?_ | refine zf ?_ _)); refine qw ?_ NB595_619.out _; (with_reducible repeat (first | refine ze ?_ _ | refine zg ?_ | refine zf ?_ _)); exact BK595.out) hb); have n5_ := Aside0.mk (zj (g := gb596) (o := .cells #[.int .i64 a1_0, .slice A1_1 l1_1.length c1_1] 24 (0, 0)) (by (with_reducible repeat (first | refine ze ?_ _ | refine zg ?_ | refine zf ?_ _)); refine qw ?_ NB596_619.out _; (with_reducible repeat (first | refine ze ?_ _ | refine zg ?_ | refine zf ?_ _)); refine qw ?_ NB596_619.out _; (with_reducible repeat (first | refine ze ?_ _ | refine zg ?_ | refine zf ?_ _)); exact BK596.out) hb); have n6_ := Aside0.mk (zj (g := gb614) (o := .cells #[.int .i64 t610, .slice Ao45 t611.length co45] 26 (0, 0)) (by (with_reducible repeat (first | refine ze ?_ _ | refine zg ?_ | refine zf ?_ _)); refine qw ?_ NB614_619.out _; (with_reducible repeat (first | refine ze ?_ _ | refine zg ?_ | refine zf ?_ _)); refine qw ?_ NB614_619.out _; (with_reducible repeat (first | refine ze ?_ _ | refine zg ?_ | refine zf ?_ _)); exact BK614.out) hb); have n7_ := Aside0.mk (zj (g := gb619) (o := .cells #[.int .i64 t615, .slice Ao53 t616.length co53] 26 (0, 0)) (by (with_reducible repeat (first | refine ze ?_ _ | refine zg ?_ | refine zf ?_ _)); refine zV (cs := #[.int .i64 t615, .slice none 0 0]) ?_ 1 _ rfl; (with_reducible repeat (first | refine ze ?_ _ | refine zg ?_ | refine zf ?_ _)); refine zV (cs := #[.int .i64 0, .slice none 0 0]) ?_ 0 _ rfl; (with_reducible repeat (first | refine ze ?_ _ | refine zg ?_ | refine zf ?_ _)); exact BK619.out) hb); have n8_ := Aside0.mk (zl (by repeat (first | (with_reducible first | exact HB.out | apply zc | apply za | apply zb | refine zd ?_ GE595.out | refine zd ?_ GE596.out | refine zd ?_ GE614.out | refine zd ?_ GE619.out) | exact HB.out)) hb); clear HO602; clear HO606; clear HO613; clear HO618; clear BK595; clear BK596; clear BK614; clear BK619; clear HB; have HO602 := n0_; have HO606 := n1_; have HO613 := n2_; have HO618 := n3_; have BK595 := n4_; have BK596 := n5_; have BK614 := n6_; have BK619 := n7_; have HB := n8_; clear n0_ n1_ n2_ n3_ n4_ n5_ n6_ n7_ n8_; (try clear hb); (try clear hb2); (try clear hk); (try clear hi)))
   (try simp only [Act.put, List.setIfInBounds_toArray, List.set_cons_zero, List.set_cons_succ])
   go_cut [56] (fun v56 wc => ∃ (kq : Nat) (x56_24 : Bool), v56 = .bool x56_24 ∧ Aside0 (zq.j0 kq x56_24 a0_0 l0_1 a1_0 l1_1 t610 t611 t615 t616 = some r) ∧ Aside0 (kq ≤ k) ∧ Aside0 (Kd.R (Kd.int .i64) 3 wc w.heap.size (fun k_ => some k_ ≠ ((.slice Ao53 t616.length co53) : Value).ownBlock) (.slice Ao45 t611.length co45) t611) ∧ Aside0 (Kd.R (Kd.int .i64) 3 wc w.heap.size (fun k_ => some k_ ≠ ((.slice Ao45 t611.length co45) : Value).ownBlock) (.slice Ao53 t616.length co53) t616) ∧ Aside0 (wc.heap[gb595]? = some (.cells #[.int .i64 a0_0, (.slice A0_1 l0_1.length c0_1)] 24 (0, 0))) ∧ Aside0 (wc.heap[gb596]? = some (.cells #[.int .i64 a1_0, (.slice A1_1 l1_1.length c1_1)] 24 (0, 0))) ∧ Aside0 (wc.heap[gb614]? = some (.cells #[.int .i64 t610, (.slice Ao45 t611.length co45)] 26 (0, 0))) ∧ Aside0 (wc.heap[gb619]? = some (.cells #[.int .i64 t615, (.slice Ao53 t616.length co53)] 26 (0, 0))) ∧ Aside0 (Below w.heap.size w wc))
   case first =>
    have H := HC25.out
    clear HC25
    by_cases c56 : t620 = t607
    ·rw [if_pos c56] at H
     have c56b0 : (t620 == t607) = true := beq_iff_eq.mpr c56
     have c56b1 : (t620 != t607) = false := bne_eq_false_iff_eq.mpr c56
     clear c56
     (first | rw [c56b0] | (simp only [zm, zn]; rw [c56b0]) | skip)
     by_cases c57 : t621 = t608
     ·rw [if_pos c57] at H
      have c57b0 : (t621 == t608) = true := beq_iff_eq.mpr c57
      have c57b1 : (t621 != t608) = false := bne_eq_false_iff_eq.mpr c57
      clear c57
      have H' := Aside0.mk H
      clear H
      go_wp2
      go_meet
      case rel => exact ⟨_, ((t622 != t609)), (by first | rfl | (simp; done) | (simp [*]; done)), H', ⟨by first | omega | exact Nat.le_refl _⟩, ⟨by (with_reducible repeat (first | apply Kd.zw | apply Kd.zx | apply Kd.zz)); exact Kd.qn HO613.out (fun _ hk => hk.2)⟩, ⟨by (with_reducible repeat (first | apply Kd.zw | apply Kd.zx | apply Kd.zz)); exact Kd.qn HO618.out (fun _ hk => hk.2)⟩, ⟨by (with_reducible repeat (first | refine ze ?_ _ | refine zg ?_ | refine zf ?_ _)); exact BK595.out⟩, ⟨by (with_reducible repeat (first | refine ze ?_ _ | refine zg ?_ | refine zf ?_ _)); exact BK596.out⟩, ⟨by (with_reducible repeat (first | refine ze ?_ _ | refine zg ?_ | refine zf ?_ _)); exact BK614.out⟩, ⟨by (with_reducible repeat (first | refine ze ?_ _ | refine zg ?_ | refine zf ?_ _)); exact BK619.out⟩, ⟨by repeat (first | (with_reducible first | exact HB.out | apply zc | apply za | apply zb | refine zd ?_ GE595.out | refine zd ?_ GE596.out | refine zd ?_ GE614.out | refine zd ?_ GE619.out) | exact HB.out)⟩⟩
     ·rw [if_neg c57] at H
      have c57b0 : (t621 == t608) = false := beq_eq_false_iff_ne.mpr c57
      have c57b1 : (t621 != t608) = true := bne_iff_ne.mpr c57
      have H' := Aside0.mk H
      clear H
      go_wp2
      go_meet
      case rel => exact ⟨_, (true), (by first | rfl | (simp; done) | (simp [*]; done)), H', ⟨by first | omega | exact Nat.le_refl _⟩, ⟨by (with_reducible repeat (first | apply Kd.zw | apply Kd.zx | apply Kd.zz)); exact Kd.qn HO613.out (fun _ hk => hk.2)⟩, ⟨by (with_reducible repeat (first | apply Kd.zw | apply Kd.zx | apply Kd.zz)); exact Kd.qn HO618.out (fun _ hk => hk.2)⟩, ⟨by (with_reducible repeat (first | refine ze ?_ _ | refine zg ?_ | refine zf ?_ _)); exact BK595.out⟩, ⟨by (with_reducible repeat (first | refine ze ?_ _ | refine zg ?_ | refine zf ?_ _)); exact BK596.out⟩, ⟨by (with_reducible repeat (first | refine ze ?_ _ | refine zg ?_ | refine zf ?_ _)); exact BK614.out⟩, ⟨by (with_reducible repeat (first | refine ze ?_ _ | refine zg ?_ | refine zf ?_ _)); exact BK619.out⟩, ⟨by repeat (first | (with_reducible first | exact HB.out | apply zc | apply za | apply zb | refine zd ?_ GE595.out | refine zd ?_ GE596.out | refine zd ?_ GE614.out | refine zd ?_ GE619.out) | exact HB.out)⟩⟩
    ·rw [if_neg c56] at H
     have c56b0 : (t620 == t607) = false := beq_eq_false_iff_ne.mpr c56
     have c56b1 : (t620 != t607) = true := bne_iff_ne.mpr c56
     (first | rw [c56b0] | (simp only [zm, zn]; rw [c56b0]) | skip)
     have H' := Aside0.mk H
     clear H
     go_wp2
     go_meet
     case rel => exact ⟨_, (true), (by first | rfl | (simp; done) | (simp [*]; done)), H', ⟨by first | omega | exact Nat.le_refl _⟩, ⟨by (with_reducible repeat (first | apply Kd.zw | apply Kd.zx | apply Kd.zz)); exact Kd.qn HO613.out (fun _ hk => hk.2)⟩, ⟨by (with_reducible repeat (first | apply Kd.zw | apply Kd.zx | apply Kd.zz)); exact Kd.qn HO618.out (fun _ hk => hk.2)⟩, ⟨by (with_reducible repeat (first | refine ze ?_ _ | refine zg ?_ | refine zf ?_ _)); exact BK595.out⟩, ⟨by (with_reducible repeat (first | refine ze ?_ _ | refine zg ?_ | refine zf ?_ _)); exact BK596.out⟩, ⟨by (with_reducible repeat (first | refine ze ?_ _ | refine zg ?_ | refine zf ?_ _)); exact BK614.out⟩, ⟨by (with_reducible repeat (first | refine ze ?_ _ | refine zg ?_ | refine zf ?_ _)); exact BK619.out⟩, ⟨by repeat (first | (with_reducible first | exact HB.out | apply zc | apply za | apply zb | refine zd ?_ GE595.out | refine zd ?_ GE596.out | refine zd ?_ GE614.out | refine zd ?_ GE619.out) | exact HB.out)⟩⟩
   case rest =>
    clear HC25
    try clear c1
    try clear c2
    try clear p2
    try clear c4
    try clear c4b0
    try clear c5
    try clear c7
    try clear c11
    try clear c11b0
    try clear c13
    try clear c14
    try clear c24
    try clear c25
    try clear c28
    try clear c42
    try clear c43
    try clear c49
    try clear c50
    try clear c51
    try clear c56
    try clear c56b0
    try clear c56b1
    try clear c57
    try clear c57b0
    try clear c57b1
    try clear hcz15_0
    try clear hcz15_1
    try clear hcz17_0
    try clear hcz17_1
    try clear hcz29_0
    try clear hcz29_1
    try clear hcz31_0
    try clear hcz31_1
    try clear hcz39_0
    try clear hcz39_1
    try clear hcz44_0
    try clear hcz44_1
    try clear hcz46_0
    try clear hcz46_1
    try clear hcz52_0
    try clear hcz52_1
    try clear hcz54_0
    try clear hcz54_1
    try clear hcz8_0
    try clear hcz8_1
    try clear hfz15_0
    try clear hfz15_1
    try clear hfz17_0
    try clear hfz17_1
    try clear hfz29_0
    try clear hfz29_1
    try clear hfz31_0
    try clear hfz31_1
    try clear hfz39_0
    try clear hfz39_1
    try clear hfz44_0
    try clear hfz44_1
    try clear hfz46_0
    try clear hfz46_1
    try clear hfz52_0
    try clear hfz52_1
    try clear hfz54_0
    try clear hfz54_1
    try clear hfz8_0
    try clear hfz8_1
    obtain ⟨kq, x56_24, rfl, HA, HJ24, HO_615001, HO_620001, BK595, BK596, BK614, BK619, HB⟩ := hcut
    cases kq with
    | zero => exact absurd HA.out (by simp [zq.j0])
    | succ kj24 =>
     have H := HA.out
     clear HA
     simp only [zq.j0] at H
     by_cases c58 : x56_24 = true
     ·subst c58
      have H1 : (none) = some r := by rw [if_pos rfl] at H; exact H
      clear H
      have H := H1
      clear H1
      exact absurd H (by simp)
     ·replace c58 := Bool.eq_false_iff.mpr c58
      subst c58
      have H1 : ((zO.f kj24 a0_0 l0_1).bind fun bt623 => ((qF.f kj24 t610 t611 bt623.1 bt623.2).bind fun t627 => (if t627 = true then ((zO.f kj24 a1_0 l1_1).bind fun bt628 => ((qF.f kj24 t615 t616 bt628.1 bt628.2).bind fun t632 => (if t632 = true then (some true) else (none)))) else (none)))) = some r := by rw [if_neg (show ¬ (false = true) by decide)] at H; exact H
      clear H
      have H := H1
      clear H1
      replace H := Option.bind_eq_some_iff.mp H
      obtain ⟨⟨t623, t624⟩, A590, H⟩ := H
      replace H : ((qF.f kj24 t610 t611 t623 t624).bind fun t627 => (if t627 = true then ((zO.f kj24 a1_0 l1_1).bind fun bt628 => ((qF.f kj24 t615 t616 bt628.1 bt628.2).bind fun t632 => (if t632 = true then (some true) else (none)))) else (none))) = some r := H
      have A59 := Aside0.mk A590
      clear A590
      replace H := Option.bind_eq_some_iff.mp H
      obtain ⟨t627, A600, H⟩ := H
      replace H : (if t627 = true then ((zO.f kj24 a1_0 l1_1).bind fun bt628 => ((qF.f kj24 t615 t616 bt628.1 bt628.2).bind fun t632 => (if t632 = true then (some true) else (none)))) else (none)) = some r := H
      have A60 := Aside0.mk A600
      clear A600
      by_cases c61 : t627 = true
      ·subst c61
       have H1 : ((zO.f kj24 a1_0 l1_1).bind fun bt628 => ((qF.f kj24 t615 t616 bt628.1 bt628.2).bind fun t632 => (if t632 = true then (some true) else (none)))) = some r := by rw [if_pos rfl] at H; exact H
       clear H
       have H := H1
       clear H1
       replace H := Option.bind_eq_some_iff.mp H
       obtain ⟨⟨t628, t629⟩, A620, H⟩ := H
       replace H : ((qF.f kj24 t615 t616 t628 t629).bind fun t632 => (if t632 = true then (some true) else (none))) = some r := H
       have A62 := Aside0.mk A620
       clear A620
       replace H := Option.bind_eq_some_iff.mp H
       obtain ⟨t632, A630, H⟩ := H
       replace H : (if t632 = true then (some true) else (none)) = some r := H
       have A63 := Aside0.mk A630
       clear A630
       by_cases c64 : t632 = true
       ·subst c64
        have H1 : (some true) = some r := by rw [if_pos rfl] at H; exact H
        clear H
        have H := H1
        clear H1
        obtain rfl := Option.some.inj H
        try go_wp2
        have n0_ := Aside0.mk (Kd.zz HO_615001.out)
        have n1_ := Aside0.mk (Kd.zz HO_620001.out)
        have n2_ := Aside0.mk (zg BK595.out)
        have n3_ := Aside0.mk (zg BK596.out)
        have n4_ := Aside0.mk (zg BK614.out)
        have n5_ := Aside0.mk (zg BK619.out)
        have n6_ := Aside0.mk (zb HB.out)
        clear HO_615001
        clear HO_620001
        clear BK595
        clear BK596
        clear BK614
        clear BK619
        clear HB
        have HO_615001 := n0_
        have HO_620001 := n1_
        have BK595 := n2_
        have BK596 := n3_
        have BK614 := n4_
        have BK619 := n5_
        have HB := n6_
        clear n0_ n1_ n2_ n3_ n4_ n5_ n6_
        refine jA (n := 5) (S := fun w' => w'.cell? ⟨gb614, 0, none⟩ = some (.int .i64 t610) ∧ w'.cell? ⟨gb614, 1, none⟩ = some (.slice Ao45 t611.length co45) ∧ w'.cell? ⟨gb595, 0, none⟩ = some (.int .i64 a0_0) ∧ w'.cell? ⟨gb595, 1, none⟩ = some (.slice A0_1 l0_1.length c0_1)) (ds := []) #[false, false, false, false, false] (by kernel_rfl) rfl rfl ⟨(zh BK614.out 0).trans rfl, (zh BK614.out 1).trans rfl, (zh BK595.out 0).trans rfl, (zh BK595.out 1).trans rfl⟩ (fun hHeld => ?_)
        generalize wc.drew = w65 at HO_615001 HO_620001 BK595 BK596 BK614 BK619 HB hHeld ⊢
        refine jf (i := 0) (N := some 57) (v := ?_) (a' := ?_) #[true, false, false, false, false] rfl rfl (by kernel_rfl) (fun _ _ _ h => h) (Or.inl ⟨by rfl, ?_⟩) hHeld ?_ ?_
        rotate_left
        ·rintro w' ⟨s0, s1, s2, s3⟩
         go_simp
         with_reducible rfl
        rotate_left
        ·simp only [Act.put, List.setIfInBounds_toArray, List.set_cons_zero, List.set_cons_succ, zm, zn]
         rfl
        refine jf (i := 1) (N := some 58) (v := ?_) (a' := ?_) #[true, true, false, false, false] rfl rfl (by kernel_rfl) (fun _ _ _ h => h) (Or.inl ⟨by rfl, ?_⟩) hHeld ?_ ?_
        rotate_left
        ·rintro w' ⟨s0, s1, s2, s3⟩
         go_simp
         with_reducible rfl
        rotate_left
        ·simp only [Act.put, List.setIfInBounds_toArray, List.set_cons_zero, List.set_cons_succ, zm, zn]
         rfl
        refine jJ (i := 2) (N := some 59) #[true, true, true, false, false] rfl rfl (by kernel_rfl) (by decide) (fun K hK => ?_)
        refine jB Try.func13 (by kernel_rfl) rfl #[.agg #[.int .i64 a0_0, .slice A0_1 l0_1.length c0_1]] (by rfl) rfl rfl (by (try simp only [List.map_toArray, List.map_cons, List.map_nil]); first | done | rfl | (simp only [List.length_drop, List.length_take]; rfl)) ?_
        with_reducible refine (zO.calls kj24 a0_0 _ _ l0_1 t623 t624 _ ?side1 ?side2 A59.out).mono ?_
        (case side1 => repeat (first | exact (Kd.zG HR0_1.out HB.out) | (with_reducible refine Kd.zI ?_ _) | (with_reducible refine Kd.zH ?_ _) | (with_reducible refine Kd.zP ?_)))
        (case side2 => exact HC0_1.out)
        rintro e w66 ⟨v625, rfl, ho0, hb⟩
        refine ⟨_, rfl, ?_⟩
        have n0_ := Aside0.mk (Kd.jo (by (with_reducible repeat (first | apply Kd.zw | apply Kd.zx | apply Kd.zz)); exact HO_615001.out) (Kd.jY ho0) hb)
        have n1_ := Aside0.mk (Kd.jo (by (with_reducible repeat (first | apply Kd.zw | apply Kd.zx | apply Kd.zz)); exact HO_620001.out) (Kd.jY ho0) hb)
        have n2_ := Aside0.mk (Kd.qB (Kd.jX (Kd.jX ho0 (Kd.vL (by (with_reducible repeat (first | apply Kd.zw | apply Kd.zx | apply Kd.zz)); exact HO_615001.out))) (Kd.vL (by (with_reducible repeat (first | apply Kd.zw | apply Kd.zx | apply Kd.zz)); exact HO_620001.out))) (zk (by repeat (first | (with_reducible first | exact HB.out | apply zc | apply za | apply zb | refine zd ?_ GE595.out | refine zd ?_ GE596.out | refine zd ?_ GE614.out | refine zd ?_ GE619.out) | exact HB.out))))
        have n3_ := Aside0.mk (zj (g := gb595) (o := .cells #[.int .i64 a0_0, .slice A0_1 l0_1.length c0_1] 24 (0, 0)) (by (with_reducible repeat (first | refine ze ?_ _ | refine zg ?_ | refine zf ?_ _)); exact BK595.out) hb)
        have n4_ := Aside0.mk (zj (g := gb596) (o := .cells #[.int .i64 a1_0, .slice A1_1 l1_1.length c1_1] 24 (0, 0)) (by (with_reducible repeat (first | refine ze ?_ _ | refine zg ?_ | refine zf ?_ _)); exact BK596.out) hb)
        have n5_ := Aside0.mk (zj (g := gb614) (o := .cells #[.int .i64 t610, .slice Ao45 t611.length co45] 26 (0, 0)) (by (with_reducible repeat (first | refine ze ?_ _ | refine zg ?_ | refine zf ?_ _)); exact BK614.out) hb)
        have n6_ := Aside0.mk (zj (g := gb619) (o := .cells #[.int .i64 t615, .slice Ao53 t616.length co53] 26 (0, 0)) (by (with_reducible repeat (first | refine ze ?_ _ | refine zg ?_ | refine zf ?_ _)); exact BK619.out) hb)
        have n7_ := Aside0.mk (zl (by repeat (first | (with_reducible first | exact HB.out | apply zc | apply za | apply zb | refine zd ?_ GE595.out | refine zd ?_ GE596.out | refine zd ?_ GE614.out | refine zd ?_ GE619.out) | exact HB.out)) hb)
        clear HO_615001
        clear HO_620001
        clear BK595
        clear BK596
        clear BK614
        clear BK619
        clear HB
        have HO_615001 := n0_
        have HO_620001 := n1_
        have HO626 := n2_
        have BK595 := n3_
        have BK596 := n4_
        have BK614 := n5_
        have BK619 := n6_
        have HB := n7_
        clear n0_ n1_ n2_ n3_ n4_ n5_ n6_ n7_
        (try clear hb)
        (try clear hb2)
        (try clear hk)
        (try clear hi)
        (try clear ho0)
        obtain ⟨Ao67, co67, eo67⟩ := Kd.qo HO626.out
        (first | subst eo67 | (injection eo67 with f1_ f2_ f3_; have f4_ := f1_.symm; have f5_ := f3_.symm; clear f1_ f2_ f3_; subst f4_; subst f5_))
        refine hK.out _ _ ⟨(zh BK614.out 0).trans rfl, (zh BK614.out 1).trans rfl, (zh BK595.out 0).trans rfl, (zh BK595.out 1).trans rfl⟩ (fun hHeld => ?_)
        clear hK K
        refine jh (a' := ?_) ?_ ?_
        rotate_left
        ·show Act.put _ (some 59) _ = _
         simp only [Act.put, List.setIfInBounds_toArray, List.set_cons_zero, List.set_cons_succ, zm, zn]
         rfl
        refine jJ (i := 3) (N := some 60) #[true, true, true, true, false] rfl rfl (by kernel_rfl) (by decide) (fun K hK => ?_)
        refine jB Try.func15 (by kernel_rfl) rfl #[.agg #[.int .i64 t610, .slice Ao45 t611.length co45], .agg #[.int .i64 t623, .slice Ao67 t624.length co67]] (by rfl) rfl rfl (by (try simp only [List.map_toArray, List.map_cons, List.map_nil]); first | done | rfl | (simp only [List.length_drop, List.length_take]; rfl)) ?_
        with_reducible refine (qF.calls kj24 t610 _ _ t611 t623 _ _ t624 true _ ?side1 ?side2 ?side3 ?side4 A60.out).mono ?_
        (case side1 => repeat (first | exact (Kd.zS HO_615001.out).2.2 | (with_reducible refine Kd.zI ?_ _) | (with_reducible refine Kd.zH ?_ _) | (with_reducible refine Kd.zP ?_)))
        (case side2 => exact (Kd.zS HO_615001.out).2.1)
        (case side3 => repeat (first | exact (Kd.zS HO626.out).2.2 | (with_reducible refine Kd.zI ?_ _) | (with_reducible refine Kd.zH ?_ _) | (with_reducible refine Kd.zP ?_)))
        (case side4 => exact (Kd.zS HO626.out).2.1)
        rintro e w68 ⟨rfl, hb⟩
        refine ⟨_, rfl, ?_⟩
        have n0_ := Aside0.mk (Kd.qq (by (with_reducible repeat (first | apply Kd.zw | apply Kd.zx | apply Kd.zz)); exact HO_615001.out) hb)
        have n1_ := Aside0.mk (Kd.qq (by (with_reducible repeat (first | apply Kd.zw | apply Kd.zx | apply Kd.zz)); exact HO_620001.out) hb)
        have n2_ := Aside0.mk (Kd.qq (by (with_reducible repeat (first | apply Kd.zw | apply Kd.zx | apply Kd.zz)); exact HO626.out) hb)
        have n3_ := Aside0.mk (zj (g := gb595) (o := .cells #[.int .i64 a0_0, .slice A0_1 l0_1.length c0_1] 24 (0, 0)) (by (with_reducible repeat (first | refine ze ?_ _ | refine zg ?_ | refine zf ?_ _)); exact BK595.out) hb)
        have n4_ := Aside0.mk (zj (g := gb596) (o := .cells #[.int .i64 a1_0, .slice A1_1 l1_1.length c1_1] 24 (0, 0)) (by (with_reducible repeat (first | refine ze ?_ _ | refine zg ?_ | refine zf ?_ _)); exact BK596.out) hb)
        have n5_ := Aside0.mk (zj (g := gb614) (o := .cells #[.int .i64 t610, .slice Ao45 t611.length co45] 26 (0, 0)) (by (with_reducible repeat (first | refine ze ?_ _ | refine zg ?_ | refine zf ?_ _)); exact BK614.out) hb)
        have n6_ := Aside0.mk (zj (g := gb619) (o := .cells #[.int .i64 t615, .slice Ao53 t616.length co53] 26 (0, 0)) (by (with_reducible repeat (first | refine ze ?_ _ | refine zg ?_ | refine zf ?_ _)); exact BK619.out) hb)
        have n7_ := Aside0.mk (zl (by repeat (first | (with_reducible first | exact HB.out | apply zc | apply za | apply zb | refine zd ?_ GE595.out | refine zd ?_ GE596.out | refine zd ?_ GE614.out | refine zd ?_ GE619.out) | exact HB.out)) hb)
        clear HO_615001
        clear HO_620001
        clear HO626
        clear BK595
        clear BK596
        clear BK614
        clear BK619
        clear HB
        have HO_615001 := n0_
        have HO_620001 := n1_
        have HO626 := n2_
        have BK595 := n3_
        have BK596 := n4_
        have BK614 := n5_
        have BK619 := n6_
        have HB := n7_
        clear n0_ n1_ n2_ n3_ n4_ n5_ n6_ n7_
        (try clear hb)
        (try clear hb2)
        (try clear hk)
        (try clear hi)
        refine hK.out _ _ ⟨(zh BK614.out 0).trans rfl, (zh BK614.out 1).trans rfl, (zh BK595.out 0).trans rfl, (zh BK595.out 1).trans rfl⟩ (fun hHeld => ?_)
        clear hK K
        refine jh (a' := ?_) ?_ ?_
        rotate_left
        ·show Act.put _ (some 60) _ = _
         simp only [Act.put, List.setIfInBounds_toArray, List.set_cons_zero, List.set_cons_succ, zm, zn]
         rfl
        refine zE (i := 4) (N := some 61) (v := ?_) (a' := ?_) #[true, true, true, true, true] rfl rfl (by kernel_rfl) (fun _ _ _ h => h) (Or.inl ⟨by rfl, ?_⟩) ?_ ?_
        rotate_left
        ·intro w'
         go_simp
         with_reducible rfl
        rotate_left
        ·simp only [Act.put, List.setIfInBounds_toArray, List.set_cons_zero, List.set_cons_succ, zm, zn]
         rfl
        refine j4 (by kernel_rfl) ?_
        try go_wp2
        have n0_ := Aside0.mk (Kd.zz HO_615001.out)
        have n1_ := Aside0.mk (Kd.zz HO_620001.out)
        have n2_ := Aside0.mk (Kd.zz HO626.out)
        have n3_ := Aside0.mk (zg BK595.out)
        have n4_ := Aside0.mk (zg BK596.out)
        have n5_ := Aside0.mk (zg BK614.out)
        have n6_ := Aside0.mk (zg BK619.out)
        have n7_ := Aside0.mk (zb HB.out)
        clear HO_615001
        clear HO_620001
        clear HO626
        clear BK595
        clear BK596
        clear BK614
        clear BK619
        clear HB
        have HO_615001 := n0_
        have HO_620001 := n1_
        have HO626 := n2_
        have BK595 := n3_
        have BK596 := n4_
        have BK614 := n5_
        have BK619 := n6_
        have HB := n7_
        clear n0_ n1_ n2_ n3_ n4_ n5_ n6_ n7_
        refine jA (n := 5) (S := fun w' => w'.cell? ⟨gb619, 0, none⟩ = some (.int .i64 t615) ∧ w'.cell? ⟨gb619, 1, none⟩ = some (.slice Ao53 t616.length co53) ∧ w'.cell? ⟨gb596, 0, none⟩ = some (.int .i64 a1_0) ∧ w'.cell? ⟨gb596, 1, none⟩ = some (.slice A1_1 l1_1.length c1_1)) (ds := []) #[false, false, false, false, false] (by kernel_rfl) rfl rfl ⟨(zh BK619.out 0).trans rfl, (zh BK619.out 1).trans rfl, (zh BK596.out 0).trans rfl, (zh BK596.out 1).trans rfl⟩ (fun hHeld => ?_)
        generalize w68.drew = w69 at HO_615001 HO_620001 HO626 BK595 BK596 BK614 BK619 HB hHeld ⊢
        refine jf (i := 0) (N := some 62) (v := ?_) (a' := ?_) #[true, false, false, false, false] rfl rfl (by kernel_rfl) (fun _ _ _ h => h) (Or.inl ⟨by rfl, ?_⟩) hHeld ?_ ?_
        rotate_left
        ·rintro w' ⟨s0, s1, s2, s3⟩
         go_simp
         with_reducible rfl
        rotate_left
        ·simp only [Act.put, List.setIfInBounds_toArray, List.set_cons_zero, List.set_cons_succ, zm, zn]
         rfl
        refine jf (i := 1) (N := some 63) (v := ?_) (a' := ?_) #[true, true, false, false, false] rfl rfl (by kernel_rfl) (fun _ _ _ h => h) (Or.inl ⟨by rfl, ?_⟩) hHeld ?_ ?_
        rotate_left
        ·rintro w' ⟨s0, s1, s2, s3⟩
         go_simp
         with_reducible rfl
        rotate_left
        ·simp only [Act.put, List.setIfInBounds_toArray, List.set_cons_zero, List.set_cons_succ, zm, zn]
         rfl
        refine jJ (i := 2) (N := some 64) #[true, true, true, false, false] rfl rfl (by kernel_rfl) (by decide) (fun K hK => ?_)
        refine jB Try.func13 (by kernel_rfl) rfl #[.agg #[.int .i64 a1_0, .slice A1_1 l1_1.length c1_1]] (by rfl) rfl rfl (by (try simp only [List.map_toArray, List.map_cons, List.map_nil]); first | done | rfl | (simp only [List.length_drop, List.length_take]; rfl)) ?_
        with_reducible refine (zO.calls kj24 a1_0 _ _ l1_1 t628 t629 _ ?side1 ?side2 A62.out).mono ?_
        (case side1 => repeat (first | exact (Kd.zG HR1_1.out HB.out) | (with_reducible refine Kd.zI ?_ _) | (with_reducible refine Kd.zH ?_ _) | (with_reducible refine Kd.zP ?_)))
        (case side2 => exact HC1_1.out)
        rintro e w70 ⟨v630, rfl, ho0, hb⟩
        refine ⟨_, rfl, ?_⟩
        have n0_ := Aside0.mk (Kd.jo (by (with_reducible repeat (first | apply Kd.zw | apply Kd.zx | apply Kd.zz)); exact HO_615001.out) (Kd.jY ho0) hb)
        have n1_ := Aside0.mk (Kd.jo (by (with_reducible repeat (first | apply Kd.zw | apply Kd.zx | apply Kd.zz)); exact HO_620001.out) (Kd.jY ho0) hb)
        have n2_ := Aside0.mk (Kd.jo (by (with_reducible repeat (first | apply Kd.zw | apply Kd.zx | apply Kd.zz)); exact HO626.out) (Kd.jY ho0) hb)
        have n3_ := Aside0.mk (Kd.qB (Kd.jX (Kd.jX (Kd.jX ho0 (Kd.vL (by (with_reducible repeat (first | apply Kd.zw | apply Kd.zx | apply Kd.zz)); exact HO_615001.out))) (Kd.vL (by (with_reducible repeat (first | apply Kd.zw | apply Kd.zx | apply Kd.zz)); exact HO_620001.out))) (Kd.vL (by (with_reducible repeat (first | apply Kd.zw | apply Kd.zx | apply Kd.zz)); exact HO626.out))) (zk (by repeat (first | (with_reducible first | exact HB.out | apply zc | apply za | apply zb | refine zd ?_ GE595.out | refine zd ?_ GE596.out | refine zd ?_ GE614.out | refine zd ?_ GE619.out) | exact HB.out))))
        have n4_ := Aside0.mk (zj (g := gb595) (o := .cells #[.int .i64 a0_0, .slice A0_1 l0_1.length c0_1] 24 (0, 0)) (by (with_reducible repeat (first | refine ze ?_ _ | refine zg ?_ | refine zf ?_ _)); exact BK595.out) hb)
        have n5_ := Aside0.mk (zj (g := gb596) (o := .cells #[.int .i64 a1_0, .slice A1_1 l1_1.length c1_1] 24 (0, 0)) (by (with_reducible repeat (first | refine ze ?_ _ | refine zg ?_ | refine zf ?_ _)); exact BK596.out) hb)
        have n6_ := Aside0.mk (zj (g := gb614) (o := .cells #[.int .i64 t610, .slice Ao45 t611.length co45] 26 (0, 0)) (by (with_reducible repeat (first | refine ze ?_ _ | refine zg ?_ | refine zf ?_ _)); exact BK614.out) hb)
        have n7_ := Aside0.mk (zj (g := gb619) (o := .cells #[.int .i64 t615, .slice Ao53 t616.length co53] 26 (0, 0)) (by (with_reducible repeat (first | refine ze ?_ _ | refine zg ?_ | refine zf ?_ _)); exact BK619.out) hb)
        have n8_ := Aside0.mk (zl (by repeat (first | (with_reducible first | exact HB.out | apply zc | apply za | apply zb | refine zd ?_ GE595.out | refine zd ?_ GE596.out | refine zd ?_ GE614.out | refine zd ?_ GE619.out) | exact HB.out)) hb)
        clear HO_615001
        clear HO_620001
        clear HO626
        clear BK595
        clear BK596
        clear BK614
        clear BK619
        clear HB
        have HO_615001 := n0_
        have HO_620001 := n1_
        have HO626 := n2_
        have HO631 := n3_
        have BK595 := n4_
        have BK596 := n5_
        have BK614 := n6_
        have BK619 := n7_
        have HB := n8_
        clear n0_ n1_ n2_ n3_ n4_ n5_ n6_ n7_ n8_
        (try clear hb)
        (try clear hb2)
        (try clear hk)
        (try clear hi)
        (try clear ho0)
        obtain ⟨Ao71, co71, eo71⟩ := Kd.qo HO631.out
        (first | subst eo71 | (injection eo71 with f1_ f2_ f3_; have f4_ := f1_.symm; have f5_ := f3_.symm; clear f1_ f2_ f3_; subst f4_; subst f5_))
        refine hK.out _ _ ⟨(zh BK619.out 0).trans rfl, (zh BK619.out 1).trans rfl, (zh BK596.out 0).trans rfl, (zh BK596.out 1).trans rfl⟩ (fun hHeld => ?_)
        clear hK K
        refine jh (a' := ?_) ?_ ?_
        rotate_left
        ·show Act.put _ (some 64) _ = _
         simp only [Act.put, List.setIfInBounds_toArray, List.set_cons_zero, List.set_cons_succ, zm, zn]
         rfl
        refine jJ (i := 3) (N := some 65) #[true, true, true, true, false] rfl rfl (by kernel_rfl) (by decide) (fun K hK => ?_)
        refine jB Try.func15 (by kernel_rfl) rfl #[.agg #[.int .i64 t615, .slice Ao53 t616.length co53], .agg #[.int .i64 t628, .slice Ao71 t629.length co71]] (by rfl) rfl rfl (by (try simp only [List.map_toArray, List.map_cons, List.map_nil]); first | done | rfl | (simp only [List.length_drop, List.length_take]; rfl)) ?_
        with_reducible refine (qF.calls kj24 t615 _ _ t616 t628 _ _ t629 true _ ?side1 ?side2 ?side3 ?side4 A63.out).mono ?_
        (case side1 => repeat (first | exact (Kd.zS HO_620001.out).2.2 | (with_reducible refine Kd.zI ?_ _) | (with_reducible refine Kd.zH ?_ _) | (with_reducible refine Kd.zP ?_)))
        (case side2 => exact (Kd.zS HO_620001.out).2.1)
        (case side3 => repeat (first | exact (Kd.zS HO631.out).2.2 | (with_reducible refine Kd.zI ?_ _) | (with_reducible refine Kd.zH ?_ _) | (with_reducible refine Kd.zP ?_)))
        (case side4 => exact (Kd.zS HO631.out).2.1)
        rintro e w72 ⟨rfl, hb⟩
        refine ⟨_, rfl, ?_⟩
        have n0_ := Aside0.mk (Kd.qq (by (with_reducible repeat (first | apply Kd.zw | apply Kd.zx | apply Kd.zz)); exact HO_615001.out) hb)
        have n1_ := Aside0.mk (Kd.qq (by (with_reducible repeat (first | apply Kd.zw | apply Kd.zx | apply Kd.zz)); exact HO_620001.out) hb)
        have n2_ := Aside0.mk (Kd.qq (by (with_reducible repeat (first | apply Kd.zw | apply Kd.zx | apply Kd.zz)); exact HO626.out) hb)
        have n3_ := Aside0.mk (Kd.qq (by (with_reducible repeat (first | apply Kd.zw | apply Kd.zx | apply Kd.zz)); exact HO631.out) hb)
        have n4_ := Aside0.mk (zj (g := gb595) (o := .cells #[.int .i64 a0_0, .slice A0_1 l0_1.length c0_1] 24 (0, 0)) (by (with_reducible repeat (first | refine ze ?_ _ | refine zg ?_ | refine zf ?_ _)); exact BK595.out) hb)
        have n5_ := Aside0.mk (zj (g := gb596) (o := .cells #[.int .i64 a1_0, .slice A1_1 l1_1.length c1_1] 24 (0, 0)) (by (with_reducible repeat (first | refine ze ?_ _ | refine zg ?_ | refine zf ?_ _)); exact BK596.out) hb)
        have n6_ := Aside0.mk (zj (g := gb614) (o := .cells #[.int .i64 t610, .slice Ao45 t611.length co45] 26 (0, 0)) (by (with_reducible repeat (first | refine ze ?_ _ | refine zg ?_ | refine zf ?_ _)); exact BK614.out) hb)
        have n7_ := Aside0.mk (zj (g := gb619) (o := .cells #[.int .i64 t615, .slice Ao53 t616.length co53] 26 (0, 0)) (by (with_reducible repeat (first | refine ze ?_ _ | refine zg ?_ | refine zf ?_ _)); exact BK619.out) hb)
        have n8_ := Aside0.mk (zl (by repeat (first | (with_reducible first | exact HB.out | apply zc | apply za | apply zb | refine zd ?_ GE595.out | refine zd ?_ GE596.out | refine zd ?_ GE614.out | refine zd ?_ GE619.out) | exact HB.out)) hb)
        clear HO_615001
        clear HO_620001
        clear HO626
        clear HO631
        clear BK595
        clear BK596
        clear BK614
        clear BK619
        clear HB
        have HO_615001 := n0_
        have HO_620001 := n1_
        have HO626 := n2_
        have HO631 := n3_
        have BK595 := n4_
        have BK596 := n5_
        have BK614 := n6_
        have BK619 := n7_
        have HB := n8_
        clear n0_ n1_ n2_ n3_ n4_ n5_ n6_ n7_ n8_
        (try clear hb)
        (try clear hb2)
        (try clear hk)
        (try clear hi)
        refine hK.out _ _ ⟨(zh BK619.out 0).trans rfl, (zh BK619.out 1).trans rfl, (zh BK596.out 0).trans rfl, (zh BK596.out 1).trans rfl⟩ (fun hHeld => ?_)
        clear hK K
        refine jh (a' := ?_) ?_ ?_
        rotate_left
        ·show Act.put _ (some 65) _ = _
         simp only [Act.put, List.setIfInBounds_toArray, List.set_cons_zero, List.set_cons_succ, zm, zn]
         rfl
        refine zE (i := 4) (N := some 66) (v := ?_) (a' := ?_) #[true, true, true, true, true] rfl rfl (by kernel_rfl) (fun _ _ _ h => h) (Or.inl ⟨by rfl, ?_⟩) ?_ ?_
        rotate_left
        ·intro w'
         go_simp
         with_reducible rfl
        rotate_left
        ·simp only [Act.put, List.setIfInBounds_toArray, List.set_cons_zero, List.set_cons_succ, zm, zn]
         rfl
        refine j4 (by kernel_rfl) ?_
        try go_wp2
        go_ret
        exact ⟨by first | rfl | (simp [zt, zu] <;> rfl) | (simp [*, zt, zu] <;> rfl), by repeat (first | (with_reducible first | exact HB.out | apply zc | apply za | apply zb | refine zd ?_ GE595.out | refine zd ?_ GE596.out | refine zd ?_ GE614.out | refine zd ?_ GE619.out) | exact HB.out)⟩
       ·replace c64 := Bool.eq_false_iff.mpr c64
        subst c64
        have H1 : (none) = some r := by rw [if_neg (show ¬ (false = true) by decide)] at H; exact H
        clear H
        have H := H1
        clear H1
        exact absurd H (by simp)
      ·replace c61 := Bool.eq_false_iff.mpr c61
       subst c61
       have H1 : (none) = some r := by rw [if_neg (show ¬ (false = true) by decide)] at H; exact H
       clear H
       have H := H1
       clear H1
       exact absurd H (by simp)

end Go.Proofs.Ytkmcefhchhahhaa.F
end
section
namespace Go.Proofs.Ytkmcefhchhahhaa.F
open Go.RowKit Go.Proofs.YtkmcefhchhahhaaW.PrintWords Go.Proofs.YtkmcefhchhahhaaW.PrintLast Go.Proofs.YtkmcefhchhahhaaW.PrintMore
attribute [local go_sem] jd q8 ji jj qP qN jc q4   -- for this text's walks alone
set_option linter.unusedVariables false
set_option linter.unusedSimpArgs false

def qU.f (k : Nat) (a0_0 : Int) (l0_1 : List Int) (a1 : Int) : Option (Int × List Int) := (qe.f k a0_0 l0_1 a1).bind fun t433 => (if t433 < 0 then (some (0, ([] : List Int))) else ((zZ.f a0_0).bind fun t434 => ((qT.f k a0_0 l0_1 (wrap64 (t434 - a1))).bind fun bt435 => (some (bt435.1, bt435.2)))))
def qU.T3 : Bool × List (List Nat × List Nat) := (true, [([], []), ([], []), ([1], [1]), ([2], [2]), ([], []), ([3, 4], [3, 4]), ([0, 5, 3], [0, 5]), ([6, 6, 0, 1, 2, 3, 4, 5, 6], [6])])
def qU.B3 : List Nat := [0, 0, 2, 6, 0, 30, 63, 127]
theorem qU.Jb : j9 .any (opsOf Try.f20 3) = qU.T3 := by kernel_rfl
theorem qU.ZA : jM qU.T3.2 qU.B3 = true := by kernel_rfl
theorem qU.calls (k : Nat) (a0_0 : Int) (A0_1 : Option Addr) (c0_1 : Nat) (l0_1 : List Int) (a1 : Int) (r1 : Int) (r2 : List Int) (w : World) (hr0_1 : Kd.C (Kd.int .i64) w A0_1 l0_1.length l0_1) (hc0_1 : l0_1.length ≤ c0_1) (h : qU.f k a0_0 l0_1 a1 = some (r1, r2)) :
  Calls Try.prog 20 #[.agg #[.int .i64 a0_0, .slice A0_1 l0_1.length c0_1], .int .i64 a1] w fun e w' => ∃ v1_ : Value, e = .returned (.agg #[.int .i64 r1, v1_]) ∧ Kd.R (Kd.int .i64) 3 w' w.heap.size (fun _ => True) v1_ r2 ∧ Below w.heap.size w w' := by
 have hu26 := Try.underlying26
 have HR0_1 := Aside0.mk hr0_1
 have HC0_1 := Aside0.mk hc0_1
 clear hr0_1 hc0_1
 have HB := Aside0.mk (Below.refl w.heap.size w)
 have H : ((qe.f k a0_0 l0_1 a1).bind fun t433 => (if t433 < 0 then (some (0, ([] : List Int))) else ((zZ.f a0_0).bind fun t434 => ((qT.f k a0_0 l0_1 (wrap64 (t434 - a1))).bind fun bt435 => (some (bt435.1, bt435.2)))))) = some (r1, r2) := h
 clear h
 replace H := Option.bind_eq_some_iff.mp H
 obtain ⟨t433, A30, H⟩ := H
 replace H : (if t433 < 0 then (some (0, ([] : List Int))) else ((zZ.f a0_0).bind fun t434 => ((qT.f k a0_0 l0_1 (wrap64 (t434 - a1))).bind fun bt435 => (some (bt435.1, bt435.2))))) = some (r1, r2) := H
 have A3 := Aside0.mk A30
 clear A30
 by_cases c4 : t433 < 0
 ·rw [if_pos c4] at H
  have c4b0 : decide (t433 < 0) = true := decide_eq_true c4
  clear c4
  simp only [Option.some.injEq, Prod.mk.injEq] at H
  obtain ⟨rfl, rfl⟩ := H
  go_enter Try.func20, Try.ntmps20
  go_wp2_with (first | ((with_reducible refine zD (N := 2) rfl ?_); refine zA ?hg (N := 2) ?hd (cs := #[.int .i64 a0_0, .slice A0_1 l0_1.length c0_1]) (t := 26) ?hr ?_; (case hd => rfl); (case hg => rfl); (case hr => first | (go_simp; done) | (go_simp; rfl)); intro gb431 hg w5 hbox hb; have n0_ := Aside0.mk (zl (by repeat (first | (with_reducible first | exact HB.out | apply zc | apply za | apply zb) | exact HB.out)) hb); have n1_ := Aside0.mk (hbox); have n2_ := Aside0.mk ((by rw [hg]; exact (zk (by repeat (first | (with_reducible first | exact HB.out | apply zc | apply za | apply zb) | exact HB.out))) : w.heap.size ≤ gb431)); have n3_ := Aside0.mk ((by rw [hg]; exact (zk (by repeat (first | (with_reducible first | exact HB.out | apply zc | apply za | apply zb) | exact HB.out))) : w.heap.size ≤ gb431)); clear HB; have HB := n0_; have BK431 := n1_; have GW431 := n2_; have GE431 := n3_; clear n0_ n1_ n2_ n3_; clear hb hbox hg) | ((with_reducible refine zD (N := 4) rfl ?_); refine zA ?hg (N := 4) ?hd (cs := #[.int .i64 0, .slice none 0 0]) (t := 26) ?hr ?_; (case hd => rfl); (case hg => rfl); (case hr => first | (go_simp; done) | (go_simp; rfl)); intro gb432 hg w6 hbox hb; have n0_ := Aside0.mk (zj (g := gb431) (o := .cells #[.int .i64 a0_0, .slice A0_1 l0_1.length c0_1] 26 (0, 0)) (by (with_reducible repeat (first | refine ze ?_ _ | refine zg ?_ | refine zf ?_ _)); exact BK431.out) hb); have n1_ := Aside0.mk (zl (by repeat (first | (with_reducible first | exact HB.out | apply zc | apply za | apply zb | refine zd ?_ GE431.out) | exact HB.out)) hb); have n2_ := Aside0.mk (hbox); have n3_ := Aside0.mk ((by rw [hg]; exact (zk (by repeat (first | (with_reducible first | exact HB.out | apply zc | apply za | apply zb | refine zd ?_ GE431.out) | exact HB.out))) : w.heap.size ≤ gb432)); have n4_ := Aside0.mk ((by rw [hg]; exact (zk (by repeat (first | (with_reducible first | exact HB.out | apply zc | apply za | apply zb | refine zd ?_ GE431.out) | exact HB.out))) : w.heap.size ≤ gb432)); have n5_ := Aside0.mk ((by rw [hg]; exact Nat.ne_of_lt (zM (g := gb431) (o := .cells #[.int .i64 a0_0, .slice A0_1 l0_1.length c0_1] 26 (0, 0)) (by (with_reducible repeat (first | refine ze ?_ _ | refine zg ?_ | refine zf ?_ _)); exact BK431.out)) : gb431 ≠ gb432)); have n6_ := Aside0.mk ((by rw [hg]; exact Nat.ne_of_gt (zM (g := gb431) (o := .cells #[.int .i64 a0_0, .slice A0_1 l0_1.length c0_1] 26 (0, 0)) (by (with_reducible repeat (first | refine ze ?_ _ | refine zg ?_ | refine zf ?_ _)); exact BK431.out)) : gb432 ≠ gb431)); clear BK431; clear HB; have BK431 := n0_; have HB := n1_; have BK432 := n2_; have GW432 := n3_; have GE432 := n4_; have NB431_432 := n5_; have NB432_431 := n6_; clear n0_ n1_ n2_ n3_ n4_ n5_ n6_; clear hb hbox hg; have hnb7 := NB431_432.out; have hnc7 := NB432_431.out; have hcz8_0 : w6.cell? ⟨gb431, 0, none⟩ = some (.int .i64 a0_0) := (zh BK431.out 0).trans rfl; have hcz8_1 : w6.cell? ⟨gb431, 1, none⟩ = some (.slice A0_1 l0_1.length c0_1) := (zh BK431.out 1).trans rfl; have hfz8_0 := zi BK431.out 0; have hfz8_1 := zi BK431.out 1) | ((with_reducible refine zo (f := 33) rfl ?_); refine zL (some 7) rfl rfl Try.func33 (by kernel_rfl) rfl #[.agg #[.int .i64 a0_0, .slice A0_1 l0_1.length c0_1], .int .i64 a1] rfl (by (try simp only [List.map_toArray, List.map_cons, List.map_nil]); first | done | rfl | (simp only [List.length_drop, List.length_take]; rfl)) ?_; (with_reducible refine (qe.calls k a0_0 _ _ l0_1 a1 t433 _ ?side1 ?side2 A3.out).mono ?_); (case side1 => repeat (first | exact (Kd.zG HR0_1.out HB.out) | (with_reducible refine Kd.zI ?_ _) | (with_reducible refine Kd.zH ?_ _) | (with_reducible refine Kd.zP ?_))); (case side2 => exact HC0_1.out); rintro e w9 ⟨rfl, hb⟩; refine ⟨_, rfl, ?_⟩; have n0_ := Aside0.mk (zj (g := gb431) (o := .cells #[.int .i64 a0_0, .slice A0_1 l0_1.length c0_1] 26 (0, 0)) (by (with_reducible repeat (first | refine ze ?_ _ | refine zg ?_ | refine zf ?_ _)); exact BK431.out) hb); have n1_ := Aside0.mk (zj (g := gb432) (o := .cells #[.int .i64 0, .slice none 0 0] 26 (0, 0)) (by (with_reducible repeat (first | refine ze ?_ _ | refine zg ?_ | refine zf ?_ _)); exact BK432.out) hb); have n2_ := Aside0.mk (zl (by repeat (first | (with_reducible first | exact HB.out | apply zc | apply za | apply zb | refine zd ?_ GE431.out | refine zd ?_ GE432.out) | exact HB.out)) hb); clear BK431; clear BK432; clear HB; have BK431 := n0_; have BK432 := n1_; have HB := n2_; clear n0_ n1_ n2_; (try clear hb); (try clear hb2); (try clear hk); (try clear hi); have hcz10_0 : w9.cell? ⟨gb432, 0, none⟩ = some (.int .i64 0) := (zh BK432.out 0).trans rfl; have hcz10_1 : w9.cell? ⟨gb432, 1, none⟩ = some (.slice none 0 0) := (zh BK432.out 1).trans rfl; have hfz10_0 := zi BK432.out 0; have hfz10_1 := zi BK432.out 1))
  refine bodyPost_ret (results_cell_row rfl _ _ gb432 26 #[.int .i64 0, .slice none 0 0] (0, 0) _ rfl (by (with_reducible repeat (first | refine ze ?_ _ | refine zg ?_ | refine zf ?_ _)); refine zV (cs := #[.int .i64 0, .slice none 0 0]) ?_ 1 _ rfl; (with_reducible repeat (first | refine ze ?_ _ | refine zg ?_ | refine zf ?_ _)); refine zV (cs := #[.int .i64 0, .slice none 0 0]) ?_ 0 _ rfl; (with_reducible repeat (first | refine ze ?_ _ | refine zg ?_ | refine zf ?_ _)); exact BK432.out) Try.underlying26 rfl (by kernel_rfl)) rfl ?_
  exact ⟨_, by first | rfl | (simp [zt, zu] <;> rfl) | (simp [*, zt, zu] <;> rfl), by first | exact Kd.yE _ _ _ _ _ | exact Kd.Ze _ _ _ _ _ | exact Kd.ZF _ _ _ _ _ | exact Kd.Zw _ _ _ _ _ | exact Kd.Zt _ _ _ _ _, by repeat (first | (with_reducible first | exact HB.out | apply zc | apply za | apply zb | refine zd ?_ GE431.out | refine zd ?_ GE432.out) | exact HB.out)⟩
 ·rw [if_neg c4] at H
  have c4b0 : decide (t433 < 0) = false := decide_eq_false c4
  clear c4
  replace H := Option.bind_eq_some_iff.mp H
  obtain ⟨t434, A110, H⟩ := H
  replace H : ((qT.f k a0_0 l0_1 (wrap64 (t434 - a1))).bind fun bt435 => (some (bt435.1, bt435.2))) = some (r1, r2) := H
  have A11 := Aside0.mk A110
  clear A110
  replace H := Option.bind_eq_some_iff.mp H
  obtain ⟨⟨t435, t436⟩, A120, H⟩ := H
  replace H : (some (t435, t436)) = some (r1, r2) := H
  have A12 := Aside0.mk A120
  clear A120
  simp only [Option.some.injEq, Prod.mk.injEq] at H
  obtain ⟨rfl, rfl⟩ := H
  go_enter Try.func20, Try.ntmps20
  try go_wp2_with (first | ((with_reducible refine zD (N := 2) rfl ?_); refine zA ?hg (N := 2) ?hd (cs := #[.int .i64 a0_0, .slice A0_1 l0_1.length c0_1]) (t := 26) ?hr ?_; (case hd => rfl); (case hg => rfl); (case hr => first | (go_simp; done) | (go_simp; rfl)); intro gb431 hg w13 hbox hb; have n0_ := Aside0.mk (zl (by repeat (first | (with_reducible first | exact HB.out | apply zc | apply za | apply zb) | exact HB.out)) hb); have n1_ := Aside0.mk (hbox); have n2_ := Aside0.mk ((by rw [hg]; exact (zk (by repeat (first | (with_reducible first | exact HB.out | apply zc | apply za | apply zb) | exact HB.out))) : w.heap.size ≤ gb431)); have n3_ := Aside0.mk ((by rw [hg]; exact (zk (by repeat (first | (with_reducible first | exact HB.out | apply zc | apply za | apply zb) | exact HB.out))) : w.heap.size ≤ gb431)); clear HB; have HB := n0_; have BK431 := n1_; have GW431 := n2_; have GE431 := n3_; clear n0_ n1_ n2_ n3_; clear hb hbox hg) | ((with_reducible refine zD (N := 4) rfl ?_); refine zA ?hg (N := 4) ?hd (cs := #[.int .i64 0, .slice none 0 0]) (t := 26) ?hr ?_; (case hd => rfl); (case hg => rfl); (case hr => first | (go_simp; done) | (go_simp; rfl)); intro gb432 hg w14 hbox hb; have n0_ := Aside0.mk (zj (g := gb431) (o := .cells #[.int .i64 a0_0, .slice A0_1 l0_1.length c0_1] 26 (0, 0)) (by (with_reducible repeat (first | refine ze ?_ _ | refine zg ?_ | refine zf ?_ _)); exact BK431.out) hb); have n1_ := Aside0.mk (zl (by repeat (first | (with_reducible first | exact HB.out | apply zc | apply za | apply zb | refine zd ?_ GE431.out) | exact HB.out)) hb); have n2_ := Aside0.mk (hbox); have n3_ := Aside0.mk ((by rw [hg]; exact (zk (by repeat (first | (with_reducible first | exact HB.out | apply zc | apply za | apply zb | refine zd ?_ GE431.out) | exact HB.out))) : w.heap.size ≤ gb432)); have n4_ := Aside0.mk ((by rw [hg]; exact (zk (by repeat (first | (with_reducible first | exact HB.out | apply zc | apply za | apply zb | refine zd ?_ GE431.out) | exact HB.out))) : w.heap.size ≤ gb432)); have n5_ := Aside0.mk ((by rw [hg]; exact Nat.ne_of_lt (zM (g := gb431) (o := .cells #[.int .i64 a0_0, .slice A0_1 l0_1.length c0_1] 26 (0, 0)) (by (with_reducible repeat (first | refine ze ?_ _ | refine zg ?_ | refine zf ?_ _)); exact BK431.out)) : gb431 ≠ gb432)); have n6_ := Aside0.mk ((by rw [hg]; exact Nat.ne_of_gt (zM (g := gb431) (o := .cells #[.int .i64 a0_0, .slice A0_1 l0_1.length c0_1] 26 (0, 0)) (by (with_reducible repeat (first | refine ze ?_ _ | refine zg ?_ | refine zf ?_ _)); exact BK431.out)) : gb432 ≠ gb431)); clear BK431; clear HB; have BK431 := n0_; have HB := n1_; have BK432 := n2_; have GW432 := n3_; have GE432 := n4_; have NB431_432 := n5_; have NB432_431 := n6_; clear n0_ n1_ n2_ n3_ n4_ n5_ n6_; clear hb hbox hg; have hnb15 := NB431_432.out; have hnc15 := NB432_431.out; have hcz16_0 : w14.cell? ⟨gb431, 0, none⟩ = some (.int .i64 a0_0) := (zh BK431.out 0).trans rfl; have hcz16_1 : w14.cell? ⟨gb431, 1, none⟩ = some (.slice A0_1 l0_1.length c0_1) := (zh BK431.out 1).trans rfl; have hfz16_0 := zi BK431.out 0; have hfz16_1 := zi BK431.out 1) | ((with_reducible refine zo (f := 33) rfl ?_); refine zL (some 7) rfl rfl Try.func33 (by kernel_rfl) rfl #[.agg #[.int .i64 a0_0, .slice A0_1 l0_1.length c0_1], .int .i64 a1] rfl (by (try simp only [List.map_toArray, List.map_cons, List.map_nil]); first | done | rfl | (simp only [List.length_drop, List.length_take]; rfl)) ?_; (with_reducible refine (qe.calls k a0_0 _ _ l0_1 a1 t433 _ ?side1 ?side2 A3.out).mono ?_); (case side1 => repeat (first | exact (Kd.zG HR0_1.out HB.out) | (with_reducible refine Kd.zI ?_ _) | (with_reducible refine Kd.zH ?_ _) | (with_reducible refine Kd.zP ?_))); (case side2 => exact HC0_1.out); rintro e w17 ⟨rfl, hb⟩; refine ⟨_, rfl, ?_⟩; have n0_ := Aside0.mk (zj (g := gb431) (o := .cells #[.int .i64 a0_0, .slice A0_1 l0_1.length c0_1] 26 (0, 0)) (by (with_reducible repeat (first | refine ze ?_ _ | refine zg ?_ | refine zf ?_ _)); exact BK431.out) hb); have n1_ := Aside0.mk (zj (g := gb432) (o := .cells #[.int .i64 0, .slice none 0 0] 26 (0, 0)) (by (with_reducible repeat (first | refine ze ?_ _ | refine zg ?_ | refine zf ?_ _)); exact BK432.out) hb); have n2_ := Aside0.mk (zl (by repeat (first | (with_reducible first | exact HB.out | apply zc | apply za | apply zb | refine zd ?_ GE431.out | refine zd ?_ GE432.out) | exact HB.out)) hb); clear BK431; clear BK432; clear HB; have BK431 := n0_; have BK432 := n1_; have HB := n2_; clear n0_ n1_ n2_; (try clear hb); (try clear hb2); (try clear hk); (try clear hi)))
  have n0_ := Aside0.mk (zg BK431.out)
  have n1_ := Aside0.mk (zg BK432.out)
  have n2_ := Aside0.mk (zb HB.out)
  clear BK431
  clear BK432
  clear HB
  have BK431 := n0_
  have BK432 := n1_
  have HB := n2_
  clear n0_ n1_ n2_
  refine jA (n := 8) (S := fun w' => w'.cell? ⟨gb431, 0, none⟩ = some (.int .i64 a0_0) ∧ w'.cell? ⟨gb431, 1, none⟩ = some (.slice A0_1 l0_1.length c0_1)) (ds := []) #[false, false, false, false, false, false, false, false] (by kernel_rfl) rfl rfl ⟨(zh BK431.out 0).trans rfl, (zh BK431.out 1).trans rfl⟩ (fun hHeld => ?_); refine qO qU.Jb qU.ZA (fun HT_ HW_ => ?_)
  generalize w17.drew = w18 at BK431 BK432 HB hHeld ⊢
  refine zE (i := 1) (N := some 11) (v := ?_) (a' := ?_) #[false, true, false, false, false, false, false, false] rfl rfl (zr HT_.out (by kernel_rfl)) (fun _ _ _ h => h) (Or.inl ⟨by rfl, ?_⟩) ?_ ?_
  rotate_left
  ·intro w'
   go_simp
   with_reducible rfl
  rotate_left
  ·simp only [Act.put, List.setIfInBounds_toArray, List.set_cons_zero, List.set_cons_succ, zm, zn]
   rfl
  refine zE (i := 4) (N := some 14) (v := ?_) (a' := ?_) #[false, true, false, false, true, false, false, false] rfl rfl (zr HT_.out (by kernel_rfl)) (fun _ _ _ h => h) (Or.inl ⟨by rfl, ?_⟩) ?_ ?_
  rotate_left
  ·intro w'
   go_simp
   with_reducible rfl
  rotate_left
  ·simp only [Act.put, List.setIfInBounds_toArray, List.set_cons_zero, List.set_cons_succ, zm, zn]
   rfl
  refine jf (i := 0) (N := some 10) (v := ?_) (a' := ?_) #[true, true, false, false, true, false, false, false] rfl rfl (qu HT_.out HW_.out (by kernel_rfl)) (fun _ _ _ h => h) (Or.inl ⟨by rfl, ?_⟩) hHeld ?_ ?_
  rotate_left
  ·rintro w' ⟨s0, s1⟩
   go_simp
   with_reducible rfl
  rotate_left
  ·simp only [Act.put, List.setIfInBounds_toArray, List.set_cons_zero, List.set_cons_succ, zm, zn]
   rfl
  refine jf (i := 2) (N := some 12) (v := ?_) (a' := ?_) #[true, true, true, false, true, false, false, false] rfl rfl (qu HT_.out HW_.out (by kernel_rfl)) (fun _ _ _ h => h) (Or.inl ⟨by rfl, ?_⟩) hHeld ?_ ?_
  rotate_left
  ·rintro w' ⟨s0, s1⟩
   go_simp
   with_reducible rfl
  rotate_left
  ·simp only [Act.put, List.setIfInBounds_toArray, List.set_cons_zero, List.set_cons_succ, zm, zn]
   rfl
  refine jJ (i := 3) (N := some 13) #[true, true, true, true, true, false, false, false] rfl rfl (qM HT_.out (by kernel_rfl)) (by decide) (fun K hK => ?_)
  refine jB Try.func36 (by kernel_rfl) rfl #[.int .i64 a0_0] (by rfl) rfl rfl (by (try simp only [List.map_toArray, List.map_cons, List.map_nil]); first | done | rfl | (simp only [List.length_drop, List.length_take]; rfl)) ?_
  with_reducible refine (zZ.calls a0_0 t434 _ A11.out).mono ?_
  rintro e w' ⟨rfl, ⟨nd, rfl⟩⟩
  refine ⟨_, rfl, ?_⟩
  refine hK.out _ _ ⟨(zh BK431.out 0).trans rfl, (zh BK431.out 1).trans rfl⟩ (fun hHeld => ?_)
  clear hK K
  refine jh (a' := ?_) ?_ ?_
  rotate_left
  ·show Act.put _ (some 13) _ = _
   simp only [Act.put, List.setIfInBounds_toArray, List.set_cons_zero, List.set_cons_succ, zm, zn]
   rfl
  refine zE (i := 5) (N := some 15) (v := ?_) (a' := ?_) #[true, true, true, true, true, true, false, false] rfl rfl (zr HT_.out (by kernel_rfl)) (fun _ _ _ h => h) (Or.inl ⟨by rfl, ?_⟩) ?_ ?_
  rotate_left
  ·intro w'
   go_simp
   with_reducible rfl
  rotate_left
  ·simp only [Act.put, List.setIfInBounds_toArray, List.set_cons_zero, List.set_cons_succ, zm, zn]
   rfl
  refine jJ (i := 6) (N := some 16) #[true, true, true, true, true, true, true, false] rfl rfl (qM HT_.out (by kernel_rfl)) (by decide) (fun K hK => ?_)
  refine jB Try.func18 (by kernel_rfl) rfl #[.agg #[.int .i64 a0_0, .slice A0_1 l0_1.length c0_1], .int .i64 (wrap64 (t434 - a1))] (by rfl) rfl rfl (by (try simp only [List.map_toArray, List.map_cons, List.map_nil]); first | done | rfl | (simp only [List.length_drop, List.length_take]; rfl)) ?_
  with_reducible refine (qT.calls k a0_0 _ _ l0_1 (wrap64 (t434 - a1)) t435 t436 _ ?side1 ?side2 A12.out).mono ?_
  (case side1 => repeat (first | exact (Kd.zG HR0_1.out (by repeat (first | (with_reducible first | exact HB.out | apply zc | apply za | apply zb | refine zd ?_ GE431.out | refine zd ?_ GE432.out) | exact HB.out))) | (with_reducible refine Kd.zI ?_ _) | (with_reducible refine Kd.zH ?_ _) | (with_reducible refine Kd.zP ?_)))
  (case side2 => exact HC0_1.out)
  rintro e w19 ⟨v437, rfl, ho0, hb⟩
  refine ⟨_, rfl, ?_⟩
  have n0_ := Aside0.mk (Kd.qB ho0 (zk (by repeat (first | (with_reducible first | exact HB.out | apply zc | apply za | apply zb | refine zd ?_ GE431.out | refine zd ?_ GE432.out) | exact HB.out))))
  have n1_ := Aside0.mk (zj (g := gb431) (o := .cells #[.int .i64 a0_0, .slice A0_1 l0_1.length c0_1] 26 (0, 0)) (by (with_reducible repeat (first | refine ze ?_ _ | refine zg ?_ | refine zf ?_ _)); exact BK431.out) hb)
  have n2_ := Aside0.mk (zj (g := gb432) (o := .cells #[.int .i64 0, .slice none 0 0] 26 (0, 0)) (by (with_reducible repeat (first | refine ze ?_ _ | refine zg ?_ | refine zf ?_ _)); exact BK432.out) hb)
  have n3_ := Aside0.mk (zl (by repeat (first | (with_reducible first | exact HB.out | apply zc | apply za | apply zb | refine zd ?_ GE431.out | refine zd ?_ GE432.out) | exact HB.out)) hb)
  clear BK431
  clear BK432
  clear HB
  have HO438 := n0_
  have BK431 := n1_
  have BK432 := n2_
  have HB := n3_
  clear n0_ n1_ n2_ n3_
  (try clear hb)
  (try clear hb2)
  (try clear hk)
  (try clear hi)
  (try clear ho0)
  obtain ⟨Ao21, co21, eo21⟩ := Kd.qo HO438.out
  (first | subst eo21 | (injection eo21 with f1_ f2_ f3_; have f4_ := f1_.symm; have f5_ := f3_.symm; clear f1_ f2_ f3_; subst f4_; subst f5_))
  refine hK.out _ _ ⟨(zh BK431.out 0).trans rfl, (zh BK431.out 1).trans rfl⟩ (fun hHeld => ?_)
  clear hK K
  refine jh (a' := ?_) ?_ ?_
  rotate_left
  ·show Act.put _ (some 16) _ = _
   simp only [Act.put, List.setIfInBounds_toArray, List.set_cons_zero, List.set_cons_succ, zm, zn]
   rfl
  refine jJ (i := 7) (N := none) #[true, true, true, true, true, true, true, true] rfl rfl (qM HT_.out (by kernel_rfl)) (by decide) (fun K hK => ?_)
  have hs20 : w19.cell? ⟨gb432, 0, none⟩ = some (.int .i64 0) := (zh BK432.out 0).trans rfl
  have hfs20 := zi BK432.out 0
  have hns20_0 := NB431_432.out
  have hms20_0 := NB432_431.out
  have hs22 : w19.cell? ⟨gb432, 1, none⟩ = some (.slice none 0 0) := (zh BK432.out 1).trans rfl
  have hfs22 := zi BK432.out 1
  have hns22_0 := NB431_432.out
  have hms22_0 := NB432_431.out
  refine JI (w1 := ?_) (by rfl) rfl ?_ ?_
  rotate_left
  ·go_simp
   rfl
  refine hK.out _ _ ⟨((cell_far (p := ⟨gb432, _, none⟩) NB431_432.out _).trans (((cell_far (p := ⟨gb432, _, none⟩) NB431_432.out _).trans (hHeld.1)))), ((cell_far (p := ⟨gb432, _, none⟩) NB431_432.out _).trans (((cell_far (p := ⟨gb432, _, none⟩) NB431_432.out _).trans (hHeld.2))))⟩ (fun hHeld => ?_)
  clear hK K
  refine j4 (jm HT_.out (by kernel_rfl)) ?_
  try go_wp2
  refine bodyPost_ret (results_cell_row rfl _ _ gb432 26 #[.int .i64 t435, .slice Ao21 t436.length co21] (0, 0) _ rfl (by (with_reducible repeat (first | refine ze ?_ _ | refine zg ?_ | refine zf ?_ _)); refine zV (cs := #[.int .i64 t435, .slice none 0 0]) ?_ 1 _ rfl; (with_reducible repeat (first | refine ze ?_ _ | refine zg ?_ | refine zf ?_ _)); refine zV (cs := #[.int .i64 0, .slice none 0 0]) ?_ 0 _ rfl; (with_reducible repeat (first | refine ze ?_ _ | refine zg ?_ | refine zf ?_ _)); exact BK432.out) Try.underlying26 rfl (by kernel_rfl)) rfl ?_
  exact ⟨_, by first | rfl | (simp [zt, zu] <;> rfl) | (simp [*, zt, zu] <;> rfl), by (with_reducible repeat (first | apply Kd.zw | apply Kd.zx | apply Kd.zz)); exact Kd.qn (Kd.qx (p := ⟨gb432, 1, none⟩) (Kd.qx (p := ⟨gb432, 0, none⟩) (Kd.qG HO438.out BK432.out (by decide)) (fun _ hk => hk.2) (.int .i64 t435)) (fun _ hk => hk.2) (.slice Ao21 t436.length co21)) (fun _ hk => trivial), by repeat (first | (with_reducible first | exact HB.out | apply zc | apply za | apply zb | refine zd ?_ GE431.out | refine zd ?_ GE432.out) | exact HB.out)⟩

end Go.Proofs.Ytkmcefhchhahhaa.F
end
section
namespace Go.Proofs.Ytkmcefhchhahhaa.F
open Go.RowKit Go.Proofs.YtkmcefhchhahhaaW.PrintWords Go.Proofs.YtkmcefhchhahhaaW.PrintLast Go.Proofs.YtkmcefhchhahhaaW.PrintMore
attribute [local go_sem] jd q8 ji jj qP qN jc q4   -- for this text's walks alone
set_option linter.unusedVariables false
set_option linter.unusedSimpArgs false

def qD.f (k : Nat) (a0_0 : Int) (l0_1 : List Int) (a1 : Int) : Option (Bool) := (qA.f k a0_0 l0_1).bind fun t260 => (if t260 = true then ((jk.f a0_0 a1).bind fun t261 => (some t261)) else (some false))
theorem qD.calls (k : Nat) (a0_0 : Int) (A0_1 : Option Addr) (c0_1 : Nat) (l0_1 : List Int) (a1 : Int) (r : Bool) (w : World) (hr0_1 : Kd.C (Kd.int .i64) w A0_1 l0_1.length l0_1) (hc0_1 : l0_1.length ≤ c0_1) (h : qD.f k a0_0 l0_1 a1 = some r) :
  Calls Try.prog 38 #[.agg #[.int .i64 a0_0, .slice A0_1 l0_1.length c0_1], .int .i64 a1] w fun e w' => e = .returned (.bool r) ∧ Below w.heap.size w w' := by
 have hu26 := Try.underlying26
 have HR0_1 := Aside0.mk hr0_1
 have HC0_1 := Aside0.mk hc0_1
 clear hr0_1 hc0_1
 have HB := Aside0.mk (Below.refl w.heap.size w)
 have H : ((qA.f k a0_0 l0_1).bind fun t260 => (if t260 = true then ((jk.f a0_0 a1).bind fun t261 => (some t261)) else (some false))) = some r := h
 clear h
 replace H := Option.bind_eq_some_iff.mp H
 obtain ⟨t260, A30, H⟩ := H
 replace H : (if t260 = true then ((jk.f a0_0 a1).bind fun t261 => (some t261)) else (some false)) = some r := H
 have A3 := Aside0.mk A30
 clear A30
 by_cases c4 : t260 = true
 ·subst c4
  have H1 : ((jk.f a0_0 a1).bind fun t261 => (some t261)) = some r := by rw [if_pos rfl] at H; exact H
  clear H
  have H := H1
  clear H1
  replace H := Option.bind_eq_some_iff.mp H
  obtain ⟨t261, A50, H⟩ := H
  replace H : (some t261) = some r := H
  have A5 := Aside0.mk A50
  clear A50
  obtain rfl := Option.some.inj H
  go_enter Try.func38, Try.ntmps38
  go_wp2_with (first | ((with_reducible refine zD (N := 2) rfl ?_); refine zA ?hg (N := 2) ?hd (cs := #[.int .i64 a0_0, .slice A0_1 l0_1.length c0_1]) (t := 26) ?hr ?_; (case hd => rfl); (case hg => rfl); (case hr => first | (go_simp; done) | (go_simp; rfl)); intro gb259 hg w6 hbox hb; have n0_ := Aside0.mk (zl (by repeat (first | (with_reducible first | exact HB.out | apply zc | apply za | apply zb) | exact HB.out)) hb); have n1_ := Aside0.mk (hbox); have n2_ := Aside0.mk ((by rw [hg]; exact (zk (by repeat (first | (with_reducible first | exact HB.out | apply zc | apply za | apply zb) | exact HB.out))) : w.heap.size ≤ gb259)); have n3_ := Aside0.mk ((by rw [hg]; exact (zk (by repeat (first | (with_reducible first | exact HB.out | apply zc | apply za | apply zb) | exact HB.out))) : w.heap.size ≤ gb259)); clear HB; have HB := n0_; have BK259 := n1_; have GW259 := n2_; have GE259 := n3_; clear n0_ n1_ n2_ n3_; clear hb hbox hg; have hcz7_0 : w6.cell? ⟨gb259, 0, none⟩ = some (.int .i64 a0_0) := (zh BK259.out 0).trans rfl; have hcz7_1 : w6.cell? ⟨gb259, 1, none⟩ = some (.slice A0_1 l0_1.length c0_1) := (zh BK259.out 1).trans rfl; have hfz7_0 := zi BK259.out 0; have hfz7_1 := zi BK259.out 1) | ((with_reducible refine zo (f := 48) rfl ?_); refine zL (some 6) rfl rfl Try.func48 (by kernel_rfl) rfl #[.agg #[.int .i64 a0_0, .slice A0_1 l0_1.length c0_1]] rfl (by (try simp only [List.map_toArray, List.map_cons, List.map_nil]); first | done | rfl | (simp only [List.length_drop, List.length_take]; rfl)) ?_; (with_reducible refine (qA.calls k a0_0 _ _ l0_1 true _ ?side1 ?side2 A3.out).mono ?_); (case side1 => repeat (first | exact (Kd.zG HR0_1.out HB.out) | (with_reducible refine Kd.zI ?_ _) | (with_reducible refine Kd.zH ?_ _) | (with_reducible refine Kd.zP ?_))); (case side2 => exact HC0_1.out); rintro e w8 ⟨rfl, hb⟩; refine ⟨_, rfl, ?_⟩; have n0_ := Aside0.mk (zj (g := gb259) (o := .cells #[.int .i64 a0_0, .slice A0_1 l0_1.length c0_1] 26 (0, 0)) (by (with_reducible repeat (first | refine ze ?_ _ | refine zg ?_ | refine zf ?_ _)); exact BK259.out) hb); have n1_ := Aside0.mk (zl (by repeat (first | (with_reducible first | exact HB.out | apply zc | apply za | apply zb | refine zd ?_ GE259.out) | exact HB.out)) hb); clear BK259; clear HB; have BK259 := n0_; have HB := n1_; clear n0_ n1_; (try clear hb); (try clear hb2); (try clear hk); (try clear hi); have hcz9_0 : w8.cell? ⟨gb259, 0, none⟩ = some (.int .i64 a0_0) := (zh BK259.out 0).trans rfl; have hcz9_1 : w8.cell? ⟨gb259, 1, none⟩ = some (.slice A0_1 l0_1.length c0_1) := (zh BK259.out 1).trans rfl; have hfz9_0 := zi BK259.out 0; have hfz9_1 := zi BK259.out 1) | (go_at_call 58; (try simp only [zm, zn]); (with_reducible refine (jk.calls a0_0 a1 t261 _ A5.out).mono ?_); rintro e w' ⟨rfl, ⟨nd, rfl⟩⟩))
  go_ret
  exact ⟨by first | rfl | (simp [zt, zu] <;> rfl) | (simp [*, zt, zu] <;> rfl), by repeat (first | (with_reducible first | exact HB.out | apply zc | apply za | apply zb | refine zd ?_ GE259.out) | exact HB.out)⟩
 ·replace c4 := Bool.eq_false_iff.mpr c4
  subst c4
  have H1 : (some false) = some r := by rw [if_neg (show ¬ (false = true) by decide)] at H; exact H
  clear H
  have H := H1
  clear H1
  obtain rfl := Option.some.inj H
  go_enter Try.func38, Try.ntmps38
  go_wp2_with (first | ((with_reducible refine zD (N := 2) rfl ?_); refine zA ?hg (N := 2) ?hd (cs := #[.int .i64 a0_0, .slice A0_1 l0_1.length c0_1]) (t := 26) ?hr ?_; (case hd => rfl); (case hg => rfl); (case hr => first | (go_simp; done) | (go_simp; rfl)); intro gb259 hg w10 hbox hb; have n0_ := Aside0.mk (zl (by repeat (first | (with_reducible first | exact HB.out | apply zc | apply za | apply zb) | exact HB.out)) hb); have n1_ := Aside0.mk (hbox); have n2_ := Aside0.mk ((by rw [hg]; exact (zk (by repeat (first | (with_reducible first | exact HB.out | apply zc | apply za | apply zb) | exact HB.out))) : w.heap.size ≤ gb259)); have n3_ := Aside0.mk ((by rw [hg]; exact (zk (by repeat (first | (with_reducible first | exact HB.out | apply zc | apply za | apply zb) | exact HB.out))) : w.heap.size ≤ gb259)); clear HB; have HB := n0_; have BK259 := n1_; have GW259 := n2_; have GE259 := n3_; clear n0_ n1_ n2_ n3_; clear hb hbox hg; have hcz11_0 : w10.cell? ⟨gb259, 0, none⟩ = some (.int .i64 a0_0) := (zh BK259.out 0).trans rfl; have hcz11_1 : w10.cell? ⟨gb259, 1, none⟩ = some (.slice A0_1 l0_1.length c0_1) := (zh BK259.out 1).trans rfl; have hfz11_0 := zi BK259.out 0; have hfz11_1 := zi BK259.out 1) | ((with_reducible refine zo (f := 48) rfl ?_); refine zL (some 6) rfl rfl Try.func48 (by kernel_rfl) rfl #[.agg #[.int .i64 a0_0, .slice A0_1 l0_1.length c0_1]] rfl (by (try simp only [List.map_toArray, List.map_cons, List.map_nil]); first | done | rfl | (simp only [List.length_drop, List.length_take]; rfl)) ?_; (with_reducible refine (qA.calls k a0_0 _ _ l0_1 false _ ?side1 ?side2 A3.out).mono ?_); (case side1 => repeat (first | exact (Kd.zG HR0_1.out HB.out) | (with_reducible refine Kd.zI ?_ _) | (with_reducible refine Kd.zH ?_ _) | (with_reducible refine Kd.zP ?_))); (case side2 => exact HC0_1.out); rintro e w12 ⟨rfl, hb⟩; refine ⟨_, rfl, ?_⟩; have n0_ := Aside0.mk (zj (g := gb259) (o := .cells #[.int .i64 a0_0, .slice A0_1 l0_1.length c0_1] 26 (0, 0)) (by (with_reducible repeat (first | refine ze ?_ _ | refine zg ?_ | refine zf ?_ _)); exact BK259.out) hb); have n1_ := Aside0.mk (zl (by repeat (first | (with_reducible first | exact HB.out | apply zc | apply za | apply zb | refine zd ?_ GE259.out) | exact HB.out)) hb); clear BK259; clear HB; have BK259 := n0_; have HB := n1_; clear n0_ n1_; (try clear hb); (try clear hb2); (try clear hk); (try clear hi)))
  go_ret
  exact ⟨by first | rfl | (simp [zt, zu] <;> rfl) | (simp [*, zt, zu] <;> rfl), by repeat (first | (with_reducible first | exact HB.out | apply zc | apply za | apply zb | refine zd ?_ GE259.out) | exact HB.out)⟩

end Go.Proofs.Ytkmcefhchhahhaa.F
end
section
namespace Go.Proofs.Ytkmcefhchhahhaa.F
open Go.RowKit Go.Proofs.YtkmcefhchhahhaaW.PrintWords Go.Proofs.YtkmcefhchhahhaaW.PrintLast Go.Proofs.YtkmcefhchhahhaaW.PrintMore
attribute [local go_sem] jd q8 ji jj qP qN jc q4   -- for this text's walks alone
set_option linter.unusedVariables false
set_option linter.unusedSimpArgs false

def yA.f (k : Nat) (a0_0 : Int) (l0_1 : List Int) (a1 : Int) : Option (Int × List Int) := (qD.f k a0_0 l0_1 a1).bind fun t441 => (if t441 = true then ((zJ.f k a0_0 l0_1 a1 0).bind fun bt442 => (some (bt442.1, bt442.2))) else (some (0, ([] : List Int))))
theorem yA.calls (k : Nat) (a0_0 : Int) (A0_1 : Option Addr) (c0_1 : Nat) (l0_1 : List Int) (a1 : Int) (r1 : Int) (r2 : List Int) (w : World) (hr0_1 : Kd.C (Kd.int .i64) w A0_1 l0_1.length l0_1) (hc0_1 : l0_1.length ≤ c0_1) (h : yA.f k a0_0 l0_1 a1 = some (r1, r2)) :
  Calls Try.prog 21 #[.agg #[.int .i64 a0_0, .slice A0_1 l0_1.length c0_1], .int .i64 a1] w fun e w' => ∃ v1_ : Value, e = .returned (.agg #[.int .i64 r1, v1_]) ∧ Kd.R (Kd.int .i64) 3 w' w.heap.size (fun _ => True) v1_ r2 ∧ Below w.heap.size w w' := by
 have hu26 := Try.underlying26
 have HR0_1 := Aside0.mk hr0_1
 have HC0_1 := Aside0.mk hc0_1
 clear hr0_1 hc0_1
 have HB := Aside0.mk (Below.refl w.heap.size w)
 have H : ((qD.f k a0_0 l0_1 a1).bind fun t441 => (if t441 = true then ((zJ.f k a0_0 l0_1 a1 0).bind fun bt442 => (some (bt442.1, bt442.2))) else (some (0, ([] : List Int))))) = some (r1, r2) := h
 clear h
 replace H := Option.bind_eq_some_iff.mp H
 obtain ⟨t441, A30, H⟩ := H
 replace H : (if t441 = true then ((zJ.f k a0_0 l0_1 a1 0).bind fun bt442 => (some (bt442.1, bt442.2))) else (some (0, ([] : List Int)))) = some (r1, r2) := H
 have A3 := Aside0.mk A30
 clear A30
 by_cases c4 : t441 = true
 ·subst c4
  have H1 : ((zJ.f k a0_0 l0_1 a1 0).bind fun bt442 => (some (bt442.1, bt442.2))) = some (r1, r2) := by rw [if_pos rfl] at H; exact H
  clear H
  have H := H1
  clear H1
  replace H := Option.bind_eq_some_iff.mp H
  obtain ⟨⟨t442, t443⟩, A50, H⟩ := H
  replace H : (some (t442, t443)) = some (r1, r2) := H
  have A5 := Aside0.mk A50
  clear A50
  simp only [Option.some.injEq, Prod.mk.injEq] at H
  obtain ⟨rfl, rfl⟩ := H
  go_enter Try.func21, Try.ntmps21
  go_wp2_with (first | ((with_reducible refine zD (N := 2) rfl ?_); refine zA ?hg (N := 2) ?hd (cs := #[.int .i64 a0_0, .slice A0_1 l0_1.length c0_1]) (t := 26) ?hr ?_; (case hd => rfl); (case hg => rfl); (case hr => first | (go_simp; done) | (go_simp; rfl)); intro gb439 hg w6 hbox hb; have n0_ := Aside0.mk (zl (by repeat (first | (with_reducible first | exact HB.out | apply zc | apply za | apply zb) | exact HB.out)) hb); have n1_ := Aside0.mk (hbox); have n2_ := Aside0.mk ((by rw [hg]; exact (zk (by repeat (first | (with_reducible first | exact HB.out | apply zc | apply za | apply zb) | exact HB.out))) : w.heap.size ≤ gb439)); have n3_ := Aside0.mk ((by rw [hg]; exact (zk (by repeat (first | (with_reducible first | exact HB.out | apply zc | apply za | apply zb) | exact HB.out))) : w.heap.size ≤ gb439)); clear HB; have HB := n0_; have BK439 := n1_; have GW439 := n2_; have GE439 := n3_; clear n0_ n1_ n2_ n3_; clear hb hbox hg) | ((with_reducible refine zD (N := 4) rfl ?_); refine zA ?hg (N := 4) ?hd (cs := #[.int .i64 0, .slice none 0 0]) (t := 26) ?hr ?_; (case hd => rfl); (case hg => rfl); (case hr => first | (go_simp; done) | (go_simp; rfl)); intro gb440 hg w7 hbox hb; have n0_ := Aside0.mk (zj (g := gb439) (o := .cells #[.int .i64 a0_0, .slice A0_1 l0_1.length c0_1] 26 (0, 0)) (by (with_reducible repeat (first | refine ze ?_ _ | refine zg ?_ | refine zf ?_ _)); exact BK439.out) hb); have n1_ := Aside0.mk (zl (by repeat (first | (with_reducible first | exact HB.out | apply zc | apply za | apply zb | refine zd ?_ GE439.out) | exact HB.out)) hb); have n2_ := Aside0.mk (hbox); have n3_ := Aside0.mk ((by rw [hg]; exact (zk (by repeat (first | (with_reducible first | exact HB.out | apply zc | apply za | apply zb | refine zd ?_ GE439.out) | exact HB.out))) : w.heap.size ≤ gb440)); have n4_ := Aside0.mk ((by rw [hg]; exact (zk (by repeat (first | (with_reducible first | exact HB.out | apply zc | apply za | apply zb | refine zd ?_ GE439.out) | exact HB.out))) : w.heap.size ≤ gb440)); have n5_ := Aside0.mk ((by rw [hg]; exact Nat.ne_of_lt (zM (g := gb439) (o := .cells #[.int .i64 a0_0, .slice A0_1 l0_1.length c0_1] 26 (0, 0)) (by (with_reducible repeat (first | refine ze ?_ _ | refine zg ?_ | refine zf ?_ _)); exact BK439.out)) : gb439 ≠ gb440)); have n6_ := Aside0.mk ((by rw [hg]; exact Nat.ne_of_gt (zM (g := gb439) (o := .cells #[.int .i64 a0_0, .slice A0_1 l0_1.length c0_1] 26 (0, 0)) (by (with_reducible repeat (first | refine ze ?_ _ | refine zg ?_ | refine zf ?_ _)); exact BK439.out)) : gb440 ≠ gb439)); clear BK439; clear HB; have BK439 := n0_; have HB := n1_; have BK440 := n2_; have GW440 := n3_; have GE440 := n4_; have NB439_440 := n5_; have NB440_439 := n6_; clear n0_ n1_ n2_ n3_ n4_ n5_ n6_; clear hb hbox hg; have hnb8 := NB439_440.out; have hnc8 := NB440_439.out; have hcz9_0 : w7.cell? ⟨gb439, 0, none⟩ = some (.int .i64 a0_0) := (zh BK439.out 0).trans rfl; have hcz9_1 : w7.cell? ⟨gb439, 1, none⟩ = some (.slice A0_1 l0_1.length c0_1) := (zh BK439.out 1).trans rfl; have hfz9_0 := zi BK439.out 0; have hfz9_1 := zi BK439.out 1) | ((with_reducible refine zo (f := 38) rfl ?_); refine zL (some 7) rfl rfl Try.func38 (by kernel_rfl) rfl #[.agg #[.int .i64 a0_0, .slice A0_1 l0_1.length c0_1], .int .i64 a1] rfl (by (try simp only [List.map_toArray, List.map_cons, List.map_nil]); first | done | rfl | (simp only [List.length_drop, List.length_take]; rfl)) ?_; (with_reducible refine (qD.calls k a0_0 _ _ l0_1 a1 true _ ?side1 ?side2 A3.out).mono ?_); (case side1 => repeat (first | exact (Kd.zG HR0_1.out HB.out) | (with_reducible refine Kd.zI ?_ _) | (with_reducible refine Kd.zH ?_ _) | (with_reducible refine Kd.zP ?_))); (case side2 => exact HC0_1.out); rintro e w10 ⟨rfl, hb⟩; refine ⟨_, rfl, ?_⟩; have n0_ := Aside0.mk (zj (g := gb439) (o := .cells #[.int .i64 a0_0, .slice A0_1 l0_1.length c0_1] 26 (0, 0)) (by (with_reducible repeat (first | refine ze ?_ _ | refine zg ?_ | refine zf ?_ _)); exact BK439.out) hb); have n1_ := Aside0.mk (zj (g := gb440) (o := .cells #[.int .i64 0, .slice none 0 0] 26 (0, 0)) (by (with_reducible repeat (first | refine ze ?_ _ | refine zg ?_ | refine zf ?_ _)); exact BK440.out) hb); have n2_ := Aside0.mk (zl (by repeat (first | (with_reducible first | exact HB.out | apply zc | apply za | apply zb | refine zd ?_ GE439.out | refine zd ?_ GE440.out) | exact HB.out)) hb); clear BK439; clear BK440; clear HB; have BK439 := n0_; have BK440 := n1_; have HB := n2_; clear n0_ n1_ n2_; (try clear hb); (try clear hb2); (try clear hk); (try clear hi); have hcz11_0 : w10.cell? ⟨gb439, 0, none⟩ = some (.int .i64 a0_0) := (zh BK439.out 0).trans rfl; have hcz11_1 : w10.cell? ⟨gb439, 1, none⟩ = some (.slice A0_1 l0_1.length c0_1) := (zh BK439.out 1).trans rfl; have hfz11_0 := zi BK439.out 0; have hfz11_1 := zi BK439.out 1) | ((with_reducible refine zo (f := 39) rfl ?_); refine zL (some 12) rfl rfl Try.func39 (by kernel_rfl) rfl #[.agg #[.int .i64 a0_0, .slice A0_1 l0_1.length c0_1], .int .i64 a1, .int .i64 0] rfl (by (try simp only [List.map_toArray, List.map_cons, List.map_nil]); first | done | rfl | (simp only [List.length_drop, List.length_take]; rfl)) ?_; (with_reducible refine (zJ.calls k a0_0 _ _ l0_1 a1 0 t442 t443 _ ?side1 ?side2 A5.out).mono ?_); (case side1 => repeat (first | exact (Kd.zG HR0_1.out HB.out) | (with_reducible refine Kd.zI ?_ _) | (with_reducible refine Kd.zH ?_ _) | (with_reducible refine Kd.zP ?_))); (case side2 => exact HC0_1.out); rintro e w12 ⟨v444, rfl, ho0, hb⟩; refine ⟨_, rfl, ?_⟩; have n0_ := Aside0.mk (Kd.qB ho0 (zk (by repeat (first | (with_reducible first | exact HB.out | apply zc | apply za | apply zb | refine zd ?_ GE439.out | refine zd ?_ GE440.out) | exact HB.out)))); have n1_ := Aside0.mk (zj (g := gb439) (o := .cells #[.int .i64 a0_0, .slice A0_1 l0_1.length c0_1] 26 (0, 0)) (by (with_reducible repeat (first | refine ze ?_ _ | refine zg ?_ | refine zf ?_ _)); exact BK439.out) hb); have n2_ := Aside0.mk (zj (g := gb440) (o := .cells #[.int .i64 0, .slice none 0 0] 26 (0, 0)) (by (with_reducible repeat (first | refine ze ?_ _ | refine zg ?_ | refine zf ?_ _)); exact BK440.out) hb); have n3_ := Aside0.mk (zl (by repeat (first | (with_reducible first | exact HB.out | apply zc | apply za | apply zb | refine zd ?_ GE439.out | refine zd ?_ GE440.out) | exact HB.out)) hb); clear BK439; clear BK440; clear HB; have HO445 := n0_; have BK439 := n1_; have BK440 := n2_; have HB := n3_; clear n0_ n1_ n2_ n3_; (try clear hb); (try clear hb2); (try clear hk); (try clear hi); (try clear ho0); have hcz13_0 : w12.cell? ⟨gb440, 0, none⟩ = some (.int .i64 0) := (zh BK440.out 0).trans rfl; have hcz13_1 : w12.cell? ⟨gb440, 1, none⟩ = some (.slice none 0 0) := (zh BK440.out 1).trans rfl; have hfz13_0 := zi BK440.out 0; have hfz13_1 := zi BK440.out 1; obtain ⟨Ao14, co14, eo14⟩ := Kd.qo HO445.out; subst eo14))
  refine bodyPost_ret (results_cell_row rfl _ _ gb440 26 #[.int .i64 t442, .slice Ao14 t443.length co14] (0, 0) _ rfl (by (with_reducible repeat (first | refine ze ?_ _ | refine zg ?_ | refine zf ?_ _)); refine zV (cs := #[.int .i64 t442, .slice none 0 0]) ?_ 1 _ rfl; (with_reducible repeat (first | refine ze ?_ _ | refine zg ?_ | refine zf ?_ _)); refine zV (cs := #[.int .i64 0, .slice none 0 0]) ?_ 0 _ rfl; (with_reducible repeat (first | refine ze ?_ _ | refine zg ?_ | refine zf ?_ _)); exact BK440.out) Try.underlying26 rfl (by kernel_rfl)) rfl ?_
  exact ⟨_, by first | rfl | (simp [zt, zu] <;> rfl) | (simp [*, zt, zu] <;> rfl), by (with_reducible repeat (first | apply Kd.zw | apply Kd.zx | apply Kd.zz)); exact Kd.qn (Kd.qx (p := ⟨gb440, 1, none⟩) (Kd.qx (p := ⟨gb440, 0, none⟩) (Kd.qG HO445.out BK440.out (by decide)) (fun _ hk => hk.2) (.int .i64 t442)) (fun _ hk => hk.2) (.slice Ao14 t443.length co14)) (fun _ hk => trivial), by repeat (first | (with_reducible first | exact HB.out | apply zc | apply za | apply zb | refine zd ?_ GE439.out | refine zd ?_ GE440.out) | exact HB.out)⟩
 ·replace c4 := Bool.eq_false_iff.mpr c4
  subst c4
  have H1 : (some (0, ([] : List Int))) = some (r1, r2) := by rw [if_neg (show ¬ (false = true) by decide)] at H; exact H
  clear H
  have H := H1
  clear H1
  simp only [Option.some.injEq, Prod.mk.injEq] at H
  obtain ⟨rfl, rfl⟩ := H
  go_enter Try.func21, Try.ntmps21
  go_wp2_with (first | ((with_reducible refine zD (N := 2) rfl ?_); refine zA ?hg (N := 2) ?hd (cs := #[.int .i64 a0_0, .slice A0_1 l0_1.length c0_1]) (t := 26) ?hr ?_; (case hd => rfl); (case hg => rfl); (case hr => first | (go_simp; done) | (go_simp; rfl)); intro gb439 hg w15 hbox hb; have n0_ := Aside0.mk (zl (by repeat (first | (with_reducible first | exact HB.out | apply zc | apply za | apply zb) | exact HB.out)) hb); have n1_ := Aside0.mk (hbox); have n2_ := Aside0.mk ((by rw [hg]; exact (zk (by repeat (first | (with_reducible first | exact HB.out | apply zc | apply za | apply zb) | exact HB.out))) : w.heap.size ≤ gb439)); have n3_ := Aside0.mk ((by rw [hg]; exact (zk (by repeat (first | (with_reducible first | exact HB.out | apply zc | apply za | apply zb) | exact HB.out))) : w.heap.size ≤ gb439)); clear HB; have HB := n0_; have BK439 := n1_; have GW439 := n2_; have GE439 := n3_; clear n0_ n1_ n2_ n3_; clear hb hbox hg) | ((with_reducible refine zD (N := 4) rfl ?_); refine zA ?hg (N := 4) ?hd (cs := #[.int .i64 0, .slice none 0 0]) (t := 26) ?hr ?_; (case hd => rfl); (case hg => rfl); (case hr => first | (go_simp; done) | (go_simp; rfl)); intro gb440 hg w16 hbox hb; have n0_ := Aside0.mk (zj (g := gb439) (o := .cells #[.int .i64 a0_0, .slice A0_1 l0_1.length c0_1] 26 (0, 0)) (by (with_reducible repeat (first | refine ze ?_ _ | refine zg ?_ | refine zf ?_ _)); exact BK439.out) hb); have n1_ := Aside0.mk (zl (by repeat (first | (with_reducible first | exact HB.out | apply zc | apply za | apply zb | refine zd ?_ GE439.out) | exact HB.out)) hb); have n2_ := Aside0.mk (hbox); have n3_ := Aside0.mk ((by rw [hg]; exact (zk (by repeat (first | (with_reducible first | exact HB.out | apply zc | apply za | apply zb | refine zd ?_ GE439.out) | exact HB.out))) : w.heap.size ≤ gb440)); have n4_ := Aside0.mk ((by rw [hg]; exact (zk (by repeat (first | (with_reducible first | exact HB.out | apply zc | apply za | apply zb | refine zd ?_ GE439.out) | exact HB.out))) : w.heap.size ≤ gb440)); have n5_ := Aside0.mk ((by rw [hg]; exact Nat.ne_of_lt (zM (g := gb439) (o := .cells #[.int .i64 a0_0, .slice A0_1 l0_1.length c0_1] 26 (0, 0)) (by (with_reducible repeat (first | refine ze ?_ _ | refine zg ?_ | refine zf ?_ _)); exact BK439.out)) : gb439 ≠ gb440)); have n6_ := Aside0.mk ((by rw [hg]; exact Nat.ne_of_gt (zM (g := gb439) (o := .cells #[.int .i64 a0_0, .slice A0_1 l0_1.length c0_1] 26 (0, 0)) (by (with_reducible repeat (first | refine ze ?_ _ | refine zg ?_ | refine zf ?_ _)); exact BK439.out)) : gb440 ≠ gb439)); clear BK439; clear HB; have BK439 := n0_; have HB := n1_; have BK440 := n2_; have GW440 := n3_; have GE440 := n4_; have NB439_440 := n5_; have NB440_439 := n6_; clear n0_ n1_ n2_ n3_ n4_ n5_ n6_; clear hb hbox hg; have hnb17 := NB439_440.out; have hnc17 := NB440_439.out; have hcz18_0 : w16.cell? ⟨gb439, 0, none⟩ = some (.int .i64 a0_0) := (zh BK439.out 0).trans rfl; have hcz18_1 : w16.cell? ⟨gb439, 1, none⟩ = some (.slice A0_1 l0_1.length c0_1) := (zh BK439.out 1).trans rfl; have hfz18_0 := zi BK439.out 0; have hfz18_1 := zi BK439.out 1) | ((with_reducible refine zo (f := 38) rfl ?_); refine zL (some 7) rfl rfl Try.func38 (by kernel_rfl) rfl #[.agg #[.int .i64 a0_0, .slice A0_1 l0_1.length c0_1], .int .i64 a1] rfl (by (try simp only [List.map_toArray, List.map_cons, List.map_nil]); first | done | rfl | (simp only [List.length_drop, List.length_take]; rfl)) ?_; (with_reducible refine (qD.calls k a0_0 _ _ l0_1 a1 false _ ?side1 ?side2 A3.out).mono ?_); (case side1 => repeat (first | exact (Kd.zG HR0_1.out HB.out) | (with_reducible refine Kd.zI ?_ _) | (with_reducible refine Kd.zH ?_ _) | (with_reducible refine Kd.zP ?_))); (case side2 => exact HC0_1.out); rintro e w19 ⟨rfl, hb⟩; refine ⟨_, rfl, ?_⟩; have n0_ := Aside0.mk (zj (g := gb439) (o := .cells #[.int .i64 a0_0, .slice A0_1 l0_1.length c0_1] 26 (0, 0)) (by (with_reducible repeat (first | refine ze ?_ _ | refine zg ?_ | refine zf ?_ _)); exact BK439.out) hb); have n1_ := Aside0.mk (zj (g := gb440) (o := .cells #[.int .i64 0, .slice none 0 0] 26 (0, 0)) (by (with_reducible repeat (first | refine ze ?_ _ | refine zg ?_ | refine zf ?_ _)); exact BK440.out) hb); have n2_ := Aside0.mk (zl (by repeat (first | (with_reducible first | exact HB.out | apply zc | apply za | apply zb | refine zd ?_ GE439.out | refine zd ?_ GE440.out) | exact HB.out)) hb); clear BK439; clear BK440; clear HB; have BK439 := n0_; have BK440 := n1_; have HB := n2_; clear n0_ n1_ n2_; (try clear hb); (try clear hb2); (try clear hk); (try clear hi); have hcz20_0 : w19.cell? ⟨gb440, 0, none⟩ = some (.int .i64 0) := (zh BK440.out 0).trans rfl; have hcz20_1 : w19.cell? ⟨gb440, 1, none⟩ = some (.slice none 0 0) := (zh BK440.out 1).trans rfl; have hfz20_0 := zi BK440.out 0; have hfz20_1 := zi BK440.out 1))
  refine bodyPost_ret (results_cell_row rfl _ _ gb440 26 #[.int .i64 0, .slice none 0 0] (0, 0) _ rfl (by (with_reducible repeat (first | refine ze ?_ _ | refine zg ?_ | refine zf ?_ _)); refine zV (cs := #[.int .i64 0, .slice none 0 0]) ?_ 1 _ rfl; (with_reducible repeat (first | refine ze ?_ _ | refine zg ?_ | refine zf ?_ _)); refine zV (cs := #[.int .i64 0, .slice none 0 0]) ?_ 0 _ rfl; (with_reducible repeat (first | refine ze ?_ _ | refine zg ?_ | refine zf ?_ _)); exact BK440.out) Try.underlying26 rfl (by kernel_rfl)) rfl ?_
  exact ⟨_, by first | rfl | (simp [zt, zu] <;> rfl) | (simp [*, zt, zu] <;> rfl), by first | exact Kd.yE _ _ _ _ _ | exact Kd.Ze _ _ _ _ _ | exact Kd.ZF _ _ _ _ _ | exact Kd.Zw _ _ _ _ _ | exact Kd.Zt _ _ _ _ _, by repeat (first | (with_reducible first | exact HB.out | apply zc | apply za | apply zb | refine zd ?_ GE439.out | refine zd ?_ GE440.out) | exact HB.out)⟩

end Go.Proofs.Ytkmcefhchhahhaa.F
end
section
namespace Go.Proofs.Ytkmcefhchhahhaa.F
open Go.RowKit Go.Proofs.YtkmcefhchhahhaaW.PrintWords Go.Proofs.YtkmcefhchhahhaaW.PrintLast Go.Proofs.YtkmcefhchhahhaaW.PrintMore
attribute [local go_sem] jd q8 ji jj qP qN jc q4   -- for this text's walks alone
set_option linter.unusedVariables false
set_option linter.unusedSimpArgs false

def qa.j0 : Nat → Int → Int → Bool → Int → List Int → Option (Int × List Int × Bool)
 | 0, _, _, _, _, _ => none
 | k + 1, x1, x2, x23, x505000, x505001 => if x23 = true then (some (0, ([] : List Int), false)) else ((ql.f x505000).bind fun t508 => ((zJ.f k x505000 x505001 (Go.bits .andNot .i64 (Go.bits .andNot .i64 t508 x1) x2) x2).bind fun bt509 => (some (bt509.1, bt509.2, true))))
def qa.f (k : Nat) (a0_0 : Int) (l0_1 : List Int) (a1 : Int) (a2 : Int) : Option (Int × List Int × Bool) := (qD.f k a0_0 l0_1 a1).bind fun t506 => (if t506 = true then ((qD.f k a0_0 l0_1 a2).bind fun t507 => (if t507 = true then (qa.j0 k a1 a2 ((Go.bits .and .i64 a1 a2) != 0) a0_0 l0_1) else (qa.j0 k a1 a2 true a0_0 l0_1))) else (qa.j0 k a1 a2 true a0_0 l0_1))
def qa.T3 : Bool × List (List Nat × List Nat) := (true, [([], []), ([], []), ([1], [1]), ([2], [2]), ([], []), ([3, 4], [3, 4]), ([], []), ([5, 6], [5, 6]), ([], []), ([0, 7, 8, 3], [0, 7, 8]), ([9, 9, 0, 1, 2, 3, 4, 5, 6, 7, 8, 9], [9]), ([10, 0, 1, 2, 3, 4, 5, 6, 7, 8, 9, 10], [])])
def qa.B3 : List Nat := [0, 0, 2, 6, 0, 30, 0, 126, 0, 511, 1023, 2047]
theorem qa.Jb : j9 .any (opsOf Try.f23 3) = qa.T3 := by kernel_rfl
theorem qa.ZA : jM qa.T3.2 qa.B3 = true := by kernel_rfl
theorem qa.calls (k : Nat) (a0_0 : Int) (A0_1 : Option Addr) (c0_1 : Nat) (l0_1 : List Int) (a1 : Int) (a2 : Int) (r1 : Int) (r2 : List Int) (r3 : Bool) (w : World) (hr0_1 : Kd.C (Kd.int .i64) w A0_1 l0_1.length l0_1) (hc0_1 : l0_1.length ≤ c0_1) (h : qa.f k a0_0 l0_1 a1 a2 = some (r1, r2, r3)) :
  Calls Try.prog 23 #[.agg #[.int .i64 a0_0, .slice A0_1 l0_1.length c0_1], .int .i64 a1, .int .i64 a2] w fun e w' => ∃ v1_ : Value, e = .returned (.tuple #[.agg #[.int .i64 r1, v1_], .bool r3]) ∧ Kd.R (Kd.int .i64) 3 w' w.heap.size (fun _ => True) v1_ r2 ∧ Below w.heap.size w w' := by
 have hu26 := Try.underlying26
 have HR0_1 := Aside0.mk hr0_1
 have HC0_1 := Aside0.mk hc0_1
 clear hr0_1 hc0_1
 have HB := Aside0.mk (Below.refl w.heap.size w)
 have H : ((qD.f k a0_0 l0_1 a1).bind fun t506 => (if t506 = true then ((qD.f k a0_0 l0_1 a2).bind fun t507 => (if t507 = true then (qa.j0 k a1 a2 ((Go.bits .and .i64 a1 a2) != 0) a0_0 l0_1) else (qa.j0 k a1 a2 true a0_0 l0_1))) else (qa.j0 k a1 a2 true a0_0 l0_1))) = some (r1, r2, r3) := h
 clear h
 have HC4 := Aside0.mk H
 clear H
 go_enter Try.func23, Try.ntmps23
 go_upto_region 1 with (first | ((with_reducible refine zD (N := 3) rfl ?_); refine zA ?hg (N := 3) ?hd (cs := #[.int .i64 a0_0, .slice A0_1 l0_1.length c0_1]) (t := 26) ?hr ?_; (case hd => rfl); (case hg => rfl); (case hr => first | (go_simp; done) | (go_simp; rfl)); intro gb504 hg w5 hbox hb; have n0_ := Aside0.mk (zl (by repeat (first | (with_reducible first | exact HB.out | apply zc | apply za | apply zb) | exact HB.out)) hb); have n1_ := Aside0.mk (hbox); have n2_ := Aside0.mk ((by rw [hg]; exact (zk (by repeat (first | (with_reducible first | exact HB.out | apply zc | apply za | apply zb) | exact HB.out))) : w.heap.size ≤ gb504)); have n3_ := Aside0.mk ((by rw [hg]; exact (zk (by repeat (first | (with_reducible first | exact HB.out | apply zc | apply za | apply zb) | exact HB.out))) : w.heap.size ≤ gb504)); clear HB; have HB := n0_; have BK504 := n1_; have GW504 := n2_; have GE504 := n3_; clear n0_ n1_ n2_ n3_; clear hb hbox hg) | ((with_reducible refine zD (N := 6) rfl ?_); refine zA ?hg (N := 6) ?hd (cs := #[.int .i64 0, .slice none 0 0]) (t := 26) ?hr ?_; (case hd => rfl); (case hg => rfl); (case hr => first | (go_simp; done) | (go_simp; rfl)); intro gb505 hg w6 hbox hb; have n0_ := Aside0.mk (zj (g := gb504) (o := .cells #[.int .i64 a0_0, .slice A0_1 l0_1.length c0_1] 26 (0, 0)) (by (with_reducible repeat (first | refine ze ?_ _ | refine zg ?_ | refine zf ?_ _)); exact BK504.out) hb); have n1_ := Aside0.mk (zl (by repeat (first | (with_reducible first | exact HB.out | apply zc | apply za | apply zb | refine zd ?_ GE504.out) | exact HB.out)) hb); have n2_ := Aside0.mk (hbox); have n3_ := Aside0.mk ((by rw [hg]; exact (zk (by repeat (first | (with_reducible first | exact HB.out | apply zc | apply za | apply zb | refine zd ?_ GE504.out) | exact HB.out))) : w.heap.size ≤ gb505)); have n4_ := Aside0.mk ((by rw [hg]; exact (zk (by repeat (first | (with_reducible first | exact HB.out | apply zc | apply za | apply zb | refine zd ?_ GE504.out) | exact HB.out))) : w.heap.size ≤ gb505)); have n5_ := Aside0.mk ((by rw [hg]; exact Nat.ne_of_lt (zM (g := gb504) (o := .cells #[.int .i64 a0_0, .slice A0_1 l0_1.length c0_1] 26 (0, 0)) (by (with_reducible repeat (first | refine ze ?_ _ | refine zg ?_ | refine zf ?_ _)); exact BK504.out)) : gb504 ≠ gb505)); have n6_ := Aside0.mk ((by rw [hg]; exact Nat.ne_of_gt (zM (g := gb504) (o := .cells #[.int .i64 a0_0, .slice A0_1 l0_1.length c0_1] 26 (0, 0)) (by (with_reducible repeat (first | refine ze ?_ _ | refine zg ?_ | refine zf ?_ _)); exact BK504.out)) : gb505 ≠ gb504)); clear BK504; clear HB; have BK504 := n0_; have HB := n1_; have BK505 := n2_; have GW505 := n3_; have GE505 := n4_; have NB504_505 := n5_; have NB505_504 := n6_; clear n0_ n1_ n2_ n3_ n4_ n5_ n6_; clear hb hbox hg))
 (try simp only [Act.put, List.setIfInBounds_toArray, List.set_cons_zero, List.set_cons_succ])
 go_cut [23] (fun v23 wc => ∃ (kq : Nat) (x23_3 : Bool), v23 = .bool x23_3 ∧ Aside0 (qa.j0 kq a1 a2 x23_3 a0_0 l0_1 = some (r1, r2, r3)) ∧ Aside0 (kq ≤ k) ∧ Aside0 (wc.heap[gb504]? = some (.cells #[.int .i64 a0_0, (.slice A0_1 l0_1.length c0_1)] 26 (0, 0))) ∧ Aside0 (wc.heap[gb505]? = some (.cells #[.int .i64 0, (.slice none 0 0)] 26 (0, 0))) ∧ Aside0 (Below w.heap.size w wc))
 case first =>
  have H := HC4.out
  clear HC4
  replace H := Option.bind_eq_some_iff.mp H
  obtain ⟨t506, A70, H⟩ := H
  replace H : (if t506 = true then ((qD.f k a0_0 l0_1 a2).bind fun t507 => (if t507 = true then (qa.j0 k a1 a2 ((Go.bits .and .i64 a1 a2) != 0) a0_0 l0_1) else (qa.j0 k a1 a2 true a0_0 l0_1))) else (qa.j0 k a1 a2 true a0_0 l0_1)) = some (r1, r2, r3) := H
  have A7 := Aside0.mk A70
  clear A70
  by_cases c8 : t506 = true
  ·subst c8
   have H1 : ((qD.f k a0_0 l0_1 a2).bind fun t507 => (if t507 = true then (qa.j0 k a1 a2 ((Go.bits .and .i64 a1 a2) != 0) a0_0 l0_1) else (qa.j0 k a1 a2 true a0_0 l0_1))) = some (r1, r2, r3) := by rw [if_pos rfl] at H; exact H
   clear H
   have H := H1
   clear H1
   replace H := Option.bind_eq_some_iff.mp H
   obtain ⟨t507, A90, H⟩ := H
   replace H : (if t507 = true then (qa.j0 k a1 a2 ((Go.bits .and .i64 a1 a2) != 0) a0_0 l0_1) else (qa.j0 k a1 a2 true a0_0 l0_1)) = some (r1, r2, r3) := H
   have A9 := Aside0.mk A90
   clear A90
   by_cases c10 : t507 = true
   ·subst c10
    have H1 : (qa.j0 k a1 a2 ((Go.bits .and .i64 a1 a2) != 0) a0_0 l0_1) = some (r1, r2, r3) := by rw [if_pos rfl] at H; exact H
    clear H
    have H := H1
    clear H1
    have H' := Aside0.mk H
    clear H
    have hnb11 := NB504_505.out
    have hnc11 := NB505_504.out
    have hcz12_0 : w6.cell? ⟨gb504, 0, none⟩ = some (.int .i64 a0_0) := (zh BK504.out 0).trans rfl
    have hcz12_1 : w6.cell? ⟨gb504, 1, none⟩ = some (.slice A0_1 l0_1.length c0_1) := (zh BK504.out 1).trans rfl
    have hfz12_0 := zi BK504.out 0
    have hfz12_1 := zi BK504.out 1
    go_wp2_with (first | ((with_reducible refine zo (f := 38) rfl ?_); refine zL (some 10) rfl rfl Try.func38 (by kernel_rfl) rfl #[.agg #[.int .i64 a0_0, .slice A0_1 l0_1.length c0_1], .int .i64 a1] rfl (by (try simp only [List.map_toArray, List.map_cons, List.map_nil]); first | done | rfl | (simp only [List.length_drop, List.length_take]; rfl)) ?_; (with_reducible refine (qD.calls k a0_0 _ _ l0_1 a1 true _ ?side1 ?side2 A7.out).mono ?_); (case side1 => repeat (first | exact (Kd.zG HR0_1.out HB.out) | (with_reducible refine Kd.zI ?_ _) | (with_reducible refine Kd.zH ?_ _) | (with_reducible refine Kd.zP ?_))); (case side2 => exact HC0_1.out); rintro e w13 ⟨rfl, hb⟩; refine ⟨_, rfl, ?_⟩; have n0_ := Aside0.mk (zj (g := gb504) (o := .cells #[.int .i64 a0_0, .slice A0_1 l0_1.length c0_1] 26 (0, 0)) (by (with_reducible repeat (first | refine ze ?_ _ | refine zg ?_ | refine zf ?_ _)); exact BK504.out) hb); have n1_ := Aside0.mk (zj (g := gb505) (o := .cells #[.int .i64 0, .slice none 0 0] 26 (0, 0)) (by (with_reducible repeat (first | refine ze ?_ _ | refine zg ?_ | refine zf ?_ _)); exact BK505.out) hb); have n2_ := Aside0.mk (zl (by repeat (first | (with_reducible first | exact HB.out | apply zc | apply za | apply zb | refine zd ?_ GE504.out | refine zd ?_ GE505.out) | exact HB.out)) hb); clear BK504; clear BK505; clear HB; have BK504 := n0_; have BK505 := n1_; have HB := n2_; clear n0_ n1_ n2_; (try clear hb); (try clear hb2); (try clear hk); (try clear hi); have hcz14_0 : w13.cell? ⟨gb504, 0, none⟩ = some (.int .i64 a0_0) := (zh BK504.out 0).trans rfl; have hcz14_1 : w13.cell? ⟨gb504, 1, none⟩ = some (.slice A0_1 l0_1.length c0_1) := (zh BK504.out 1).trans rfl; have hfz14_0 := zi BK504.out 0; have hfz14_1 := zi BK504.out 1) | (go_at_call 38; (try simp only [zm, zn]); (with_reducible refine (qD.calls k a0_0 _ _ l0_1 a2 true _ ?side1 ?side2 A9.out).mono ?_); (case side1 => repeat (first | exact (Kd.zG HR0_1.out HB.out) | (with_reducible refine Kd.zI ?_ _) | (with_reducible refine Kd.zH ?_ _) | (with_reducible refine Kd.zP ?_))); (case side2 => exact HC0_1.out); rintro e w15 ⟨rfl, hb⟩; have n0_ := Aside0.mk (zj (g := gb504) (o := .cells #[.int .i64 a0_0, .slice A0_1 l0_1.length c0_1] 26 (0, 0)) (by (with_reducible repeat (first | refine ze ?_ _ | refine zg ?_ | refine zf ?_ _)); exact BK504.out) hb); have n1_ := Aside0.mk (zj (g := gb505) (o := .cells #[.int .i64 0, .slice none 0 0] 26 (0, 0)) (by (with_reducible repeat (first | refine ze ?_ _ | refine zg ?_ | refine zf ?_ _)); exact BK505.out) hb); have n2_ := Aside0.mk (zl (by repeat (first | (with_reducible first | exact HB.out | apply zc | apply za | apply zb | refine zd ?_ GE504.out | refine zd ?_ GE505.out) | exact HB.out)) hb); clear BK504; clear BK505; clear HB; have BK504 := n0_; have BK505 := n1_; have HB := n2_; clear n0_ n1_ n2_; (try clear hb); (try clear hb2); (try clear hk); (try clear hi)))
    go_meet
    case rel => exact ⟨_, (((Go.bits .and .i64 a1 a2) != 0)), (by first | rfl | (simp; done) | (simp [*]; done)), H', ⟨by first | omega | exact Nat.le_refl _⟩, ⟨by (with_reducible repeat (first | refine ze ?_ _ | refine zg ?_ | refine zf ?_ _)); exact BK504.out⟩, ⟨by (with_reducible repeat (first | refine ze ?_ _ | refine zg ?_ | refine zf ?_ _)); exact BK505.out⟩, ⟨by repeat (first | (with_reducible first | exact HB.out | apply zc | apply za | apply zb | refine zd ?_ GE504.out | refine zd ?_ GE505.out) | exact HB.out)⟩⟩
   ·replace c10 := Bool.eq_false_iff.mpr c10
    subst c10
    have H1 : (qa.j0 k a1 a2 true a0_0 l0_1) = some (r1, r2, r3) := by rw [if_neg (show ¬ (false = true) by decide)] at H; exact H
    clear H
    have H := H1
    clear H1
    have H' := Aside0.mk H
    clear H
    have hnb16 := NB504_505.out
    have hnc16 := NB505_504.out
    have hcz17_0 : w6.cell? ⟨gb504, 0, none⟩ = some (.int .i64 a0_0) := (zh BK504.out 0).trans rfl
    have hcz17_1 : w6.cell? ⟨gb504, 1, none⟩ = some (.slice A0_1 l0_1.length c0_1) := (zh BK504.out 1).trans rfl
    have hfz17_0 := zi BK504.out 0
    have hfz17_1 := zi BK504.out 1
    go_wp2_with (first | ((with_reducible refine zo (f := 38) rfl ?_); refine zL (some 10) rfl rfl Try.func38 (by kernel_rfl) rfl #[.agg #[.int .i64 a0_0, .slice A0_1 l0_1.length c0_1], .int .i64 a1] rfl (by (try simp only [List.map_toArray, List.map_cons, List.map_nil]); first | done | rfl | (simp only [List.length_drop, List.length_take]; rfl)) ?_; (with_reducible refine (qD.calls k a0_0 _ _ l0_1 a1 true _ ?side1 ?side2 A7.out).mono ?_); (case side1 => repeat (first | exact (Kd.zG HR0_1.out HB.out) | (with_reducible refine Kd.zI ?_ _) | (with_reducible refine Kd.zH ?_ _) | (with_reducible refine Kd.zP ?_))); (case side2 => exact HC0_1.out); rintro e w18 ⟨rfl, hb⟩; refine ⟨_, rfl, ?_⟩; have n0_ := Aside0.mk (zj (g := gb504) (o := .cells #[.int .i64 a0_0, .slice A0_1 l0_1.length c0_1] 26 (0, 0)) (by (with_reducible repeat (first | refine ze ?_ _ | refine zg ?_ | refine zf ?_ _)); exact BK504.out) hb); have n1_ := Aside0.mk (zj (g := gb505) (o := .cells #[.int .i64 0, .slice none 0 0] 26 (0, 0)) (by (with_reducible repeat (first | refine ze ?_ _ | refine zg ?_ | refine zf ?_ _)); exact BK505.out) hb); have n2_ := Aside0.mk (zl (by repeat (first | (with_reducible first | exact HB.out | apply zc | apply za | apply zb | refine zd ?_ GE504.out | refine zd ?_ GE505.out) | exact HB.out)) hb); clear BK504; clear BK505; clear HB; have BK504 := n0_; have BK505 := n1_; have HB := n2_; clear n0_ n1_ n2_; (try clear hb); (try clear hb2); (try clear hk); (try clear hi); have hcz19_0 : w18.cell? ⟨gb504, 0, none⟩ = some (.int .i64 a0_0) := (zh BK504.out 0).trans rfl; have hcz19_1 : w18.cell? ⟨gb504, 1, none⟩ = some (.slice A0_1 l0_1.length c0_1) := (zh BK504.out 1).trans rfl; have hfz19_0 := zi BK504.out 0; have hfz19_1 := zi BK504.out 1) | (go_at_call 38; (try simp only [zm, zn]); (with_reducible refine (qD.calls k a0_0 _ _ l0_1 a2 false _ ?side1 ?side2 A9.out).mono ?_); (case side1 => repeat (first | exact (Kd.zG HR0_1.out HB.out) | (with_reducible refine Kd.zI ?_ _) | (with_reducible refine Kd.zH ?_ _) | (with_reducible refine Kd.zP ?_))); (case side2 => exact HC0_1.out); rintro e w20 ⟨rfl, hb⟩; have n0_ := Aside0.mk (zj (g := gb504) (o := .cells #[.int .i64 a0_0, .slice A0_1 l0_1.length c0_1] 26 (0, 0)) (by (with_reducible repeat (first | refine ze ?_ _ | refine zg ?_ | refine zf ?_ _)); exact BK504.out) hb); have n1_ := Aside0.mk (zj (g := gb505) (o := .cells #[.int .i64 0, .slice none 0 0] 26 (0, 0)) (by (with_reducible repeat (first | refine ze ?_ _ | refine zg ?_ | refine zf ?_ _)); exact BK505.out) hb); have n2_ := Aside0.mk (zl (by repeat (first | (with_reducible first | exact HB.out | apply zc | apply za | apply zb | refine zd ?_ GE504.out | refine zd ?_ GE505.out) | exact HB.out)) hb); clear BK504; clear BK505; clear HB; have BK504 := n0_; have BK505 := n1_; have HB := n2_; clear n0_ n1_ n2_; (try clear hb); (try clear hb2); (try clear hk); (try clear hi)))
    go_meet
    case rel => exact ⟨_, (true), (by first | rfl | (simp; done) | (simp [*]; done)), H', ⟨by first | omega | exact Nat.le_refl _⟩, ⟨by (with_reducible repeat (first | refine ze ?_ _ | refine zg ?_ | refine zf ?_ _)); exact BK504.out⟩, ⟨by (with_reducible repeat (first | refine ze ?_ _ | refine zg ?_ | refine zf ?_ _)); exact BK505.out⟩, ⟨by repeat (first | (with_reducible first | exact HB.out | apply zc | apply za | apply zb | refine zd ?_ GE504.out | refine zd ?_ GE505.out) | exact HB.out)⟩⟩
  ·replace c8 := Bool.eq_false_iff.mpr c8
   subst c8
   have H1 : (qa.j0 k a1 a2 true a0_0 l0_1) = some (r1, r2, r3) := by rw [if_neg (show ¬ (false = true) by decide)] at H; exact H
   clear H
   have H := H1
   clear H1
   have H' := Aside0.mk H
   clear H
   have hnb21 := NB504_505.out
   have hnc21 := NB505_504.out
   have hcz22_0 : w6.cell? ⟨gb504, 0, none⟩ = some (.int .i64 a0_0) := (zh BK504.out 0).trans rfl
   have hcz22_1 : w6.cell? ⟨gb504, 1, none⟩ = some (.slice A0_1 l0_1.length c0_1) := (zh BK504.out 1).trans rfl
   have hfz22_0 := zi BK504.out 0
   have hfz22_1 := zi BK504.out 1
   go_wp2_with (first | ((with_reducible refine zo (f := 38) rfl ?_); refine zL (some 10) rfl rfl Try.func38 (by kernel_rfl) rfl #[.agg #[.int .i64 a0_0, .slice A0_1 l0_1.length c0_1], .int .i64 a1] rfl (by (try simp only [List.map_toArray, List.map_cons, List.map_nil]); first | done | rfl | (simp only [List.length_drop, List.length_take]; rfl)) ?_; (with_reducible refine (qD.calls k a0_0 _ _ l0_1 a1 false _ ?side1 ?side2 A7.out).mono ?_); (case side1 => repeat (first | exact (Kd.zG HR0_1.out HB.out) | (with_reducible refine Kd.zI ?_ _) | (with_reducible refine Kd.zH ?_ _) | (with_reducible refine Kd.zP ?_))); (case side2 => exact HC0_1.out); rintro e w23 ⟨rfl, hb⟩; refine ⟨_, rfl, ?_⟩; have n0_ := Aside0.mk (zj (g := gb504) (o := .cells #[.int .i64 a0_0, .slice A0_1 l0_1.length c0_1] 26 (0, 0)) (by (with_reducible repeat (first | refine ze ?_ _ | refine zg ?_ | refine zf ?_ _)); exact BK504.out) hb); have n1_ := Aside0.mk (zj (g := gb505) (o := .cells #[.int .i64 0, .slice none 0 0] 26 (0, 0)) (by (with_reducible repeat (first | refine ze ?_ _ | refine zg ?_ | refine zf ?_ _)); exact BK505.out) hb); have n2_ := Aside0.mk (zl (by repeat (first | (with_reducible first | exact HB.out | apply zc | apply za | apply zb | refine zd ?_ GE504.out | refine zd ?_ GE505.out) | exact HB.out)) hb); clear BK504; clear BK505; clear HB; have BK504 := n0_; have BK505 := n1_; have HB := n2_; clear n0_ n1_ n2_; (try clear hb); (try clear hb2); (try clear hk); (try clear hi)))
   go_meet
   case rel => exact ⟨_, (true), (by first | rfl | (simp; done) | (simp [*]; done)), H', ⟨by first | omega | exact Nat.le_refl _⟩, ⟨by (with_reducible repeat (first | refine ze ?_ _ | refine zg ?_ | refine zf ?_ _)); exact BK504.out⟩, ⟨by (with_reducible repeat (first | refine ze ?_ _ | refine zg ?_ | refine zf ?_ _)); exact BK505.out⟩, ⟨by repeat (first | (with_reducible first | exact HB.out | apply zc | apply za | apply zb | refine zd ?_ GE504.out | refine zd ?_ GE505.out) | exact HB.out)⟩⟩
 case rest =>
  clear HC4
  try clear c1
  try clear c2
  try clear p2
  try clear c3
  try clear c8
  try clear c10
  try clear c11
  try clear c16
  try clear c21
  try clear c23
  try clear hcz12_0
  try clear hcz12_1
  try clear hcz14_0
  try clear hcz14_1
  try clear hcz17_0
  try clear hcz17_1
  try clear hcz19_0
  try clear hcz19_1
  try clear hcz22_0
  try clear hcz22_1
  try clear hfz12_0
  try clear hfz12_1
  try clear hfz14_0
  try clear hfz14_1
  try clear hfz17_0
  try clear hfz17_1
  try clear hfz19_0
  try clear hfz19_1
  try clear hfz22_0
  try clear hfz22_1
  obtain ⟨kq, x23_3, rfl, HA, HJ3, BK504, BK505, HB⟩ := hcut
  cases kq with
  | zero => exact absurd HA.out (by simp [qa.j0])
  | succ kj3 =>
   have H := HA.out
   clear HA
   simp only [qa.j0] at H
   by_cases c24 : x23_3 = true
   ·subst c24
    have H1 : (some (0, ([] : List Int), false)) = some (r1, r2, r3) := by rw [if_pos rfl] at H; exact H
    clear H
    have H := H1
    clear H1
    simp only [Option.some.injEq, Prod.mk.injEq] at H
    obtain ⟨rfl, rfl, rfl⟩ := H
    have hnb25 := NB505_504.out
    have hnc25 := NB504_505.out
    have hcz26_0 : wc.cell? ⟨gb505, 0, none⟩ = some (.int .i64 0) := (zh BK505.out 0).trans rfl
    have hcz26_1 : wc.cell? ⟨gb505, 1, none⟩ = some (.slice none 0 0) := (zh BK505.out 1).trans rfl
    have hfz26_0 := zi BK505.out 0
    have hfz26_1 := zi BK505.out 1
    go_wp2
    refine bodyPost_ret (jP rfl _ _ gb505 26 #[.int .i64 0, .slice none 0 0] (0, 0) _ rfl (by (with_reducible repeat (first | refine ze ?_ _ | refine zg ?_ | refine zf ?_ _)); refine zV (cs := #[.int .i64 0, .slice none 0 0]) ?_ 1 _ rfl; (with_reducible repeat (first | refine ze ?_ _ | refine zg ?_ | refine zf ?_ _)); refine zV (cs := #[.int .i64 0, .slice none 0 0]) ?_ 0 _ rfl; (with_reducible repeat (first | refine ze ?_ _ | refine zg ?_ | refine zf ?_ _)); exact BK505.out) Try.underlying26 rfl (by kernel_rfl)) rfl ?_
    exact ⟨_, by first | rfl | (simp [zt, zu] <;> rfl) | (simp [*, zt, zu] <;> rfl), by first | exact Kd.yE _ _ _ _ _ | exact Kd.Ze _ _ _ _ _ | exact Kd.ZF _ _ _ _ _ | exact Kd.Zw _ _ _ _ _ | exact Kd.Zt _ _ _ _ _, by repeat (first | (with_reducible first | exact HB.out | apply zc | apply za | apply zb | refine zd ?_ GE504.out | refine zd ?_ GE505.out) | exact HB.out)⟩
   ·replace c24 := Bool.eq_false_iff.mpr c24
    subst c24
    have H1 : ((ql.f a0_0).bind fun t508 => ((zJ.f kj3 a0_0 l0_1 (Go.bits .andNot .i64 (Go.bits .andNot .i64 t508 a1) a2) a2).bind fun bt509 => (some (bt509.1, bt509.2, true)))) = some (r1, r2, r3) := by rw [if_neg (show ¬ (false = true) by decide)] at H; exact H
    clear H
    have H := H1
    clear H1
    replace H := Option.bind_eq_some_iff.mp H
    obtain ⟨t508, A270, H⟩ := H
    replace H : ((zJ.f kj3 a0_0 l0_1 (Go.bits .andNot .i64 (Go.bits .andNot .i64 t508 a1) a2) a2).bind fun bt509 => (some (bt509.1, bt509.2, true))) = some (r1, r2, r3) := H
    have A27 := Aside0.mk A270
    clear A270
    replace H := Option.bind_eq_some_iff.mp H
    obtain ⟨⟨t509, t510⟩, A280, H⟩ := H
    replace H : (some (t509, t510, true)) = some (r1, r2, r3) := H
    have A28 := Aside0.mk A280
    clear A280
    simp only [Option.some.injEq, Prod.mk.injEq] at H
    obtain ⟨rfl, rfl, rfl⟩ := H
    try go_wp2
    have n0_ := Aside0.mk (zg BK504.out)
    have n1_ := Aside0.mk (zg BK505.out)
    have n2_ := Aside0.mk (zb HB.out)
    clear BK504
    clear BK505
    clear HB
    have BK504 := n0_
    have BK505 := n1_
    have HB := n2_
    clear n0_ n1_ n2_
    refine jA (n := 12) (S := fun w' => w'.cell? ⟨gb504, 0, none⟩ = some (.int .i64 a0_0) ∧ w'.cell? ⟨gb504, 1, none⟩ = some (.slice A0_1 l0_1.length c0_1)) (ds := []) #[false, false, false, false, false, false, false, false, false, false, false, false] (by kernel_rfl) rfl rfl ⟨(zh BK504.out 0).trans rfl, (zh BK504.out 1).trans rfl⟩ (fun hHeld => ?_); refine qO qa.Jb qa.ZA (fun HT_ HW_ => ?_)
    generalize wc.drew = w29 at BK504 BK505 HB hHeld ⊢
    refine zE (i := 1) (N := some 26) (v := ?_) (a' := ?_) #[false, true, false, false, false, false, false, false, false, false, false, false] rfl rfl (zr HT_.out (by kernel_rfl)) (fun _ _ _ h => h) (Or.inl ⟨by rfl, ?_⟩) ?_ ?_
    rotate_left
    ·intro w'
     go_simp
     with_reducible rfl
    rotate_left
    ·simp only [Act.put, List.setIfInBounds_toArray, List.set_cons_zero, List.set_cons_succ, zm, zn]
     rfl
    refine zE (i := 4) (N := some 29) (v := ?_) (a' := ?_) #[false, true, false, false, true, false, false, false, false, false, false, false] rfl rfl (zr HT_.out (by kernel_rfl)) (fun _ _ _ h => h) (Or.inl ⟨by rfl, ?_⟩) ?_ ?_
    rotate_left
    ·intro w'
     go_simp
     with_reducible rfl
    rotate_left
    ·simp only [Act.put, List.setIfInBounds_toArray, List.set_cons_zero, List.set_cons_succ, zm, zn]
     rfl
    refine zE (i := 6) (N := some 31) (v := ?_) (a' := ?_) #[false, true, false, false, true, false, true, false, false, false, false, false] rfl rfl (zr HT_.out (by kernel_rfl)) (fun _ _ _ h => h) (Or.inl ⟨by rfl, ?_⟩) ?_ ?_
    rotate_left
    ·intro w'
     go_simp
     with_reducible rfl
    rotate_left
    ·simp only [Act.put, List.setIfInBounds_toArray, List.set_cons_zero, List.set_cons_succ, zm, zn]
     rfl
    refine zE (i := 8) (N := some 33) (v := ?_) (a' := ?_) #[false, true, false, false, true, false, true, false, true, false, false, false] rfl rfl (zr HT_.out (by kernel_rfl)) (fun _ _ _ h => h) (Or.inl ⟨by rfl, ?_⟩) ?_ ?_
    rotate_left
    ·intro w'
     go_simp
     with_reducible rfl
    rotate_left
    ·simp only [Act.put, List.setIfInBounds_toArray, List.set_cons_zero, List.set_cons_succ, zm, zn]
     rfl
    refine jf (i := 0) (N := some 25) (v := ?_) (a' := ?_) #[true, true, false, false, true, false, true, false, true, false, false, false] rfl rfl (qu HT_.out HW_.out (by kernel_rfl)) (fun _ _ _ h => h) (Or.inl ⟨by rfl, ?_⟩) hHeld ?_ ?_
    rotate_left
    ·rintro w' ⟨s0, s1⟩
     go_simp
     with_reducible rfl
    rotate_left
    ·simp only [Act.put, List.setIfInBounds_toArray, List.set_cons_zero, List.set_cons_succ, zm, zn]
     rfl
    refine jf (i := 2) (N := some 27) (v := ?_) (a' := ?_) #[true, true, true, false, true, false, true, false, true, false, false, false] rfl rfl (qu HT_.out HW_.out (by kernel_rfl)) (fun _ _ _ h => h) (Or.inl ⟨by rfl, ?_⟩) hHeld ?_ ?_
    rotate_left
    ·rintro w' ⟨s0, s1⟩
     go_simp
     with_reducible rfl
    rotate_left
    ·simp only [Act.put, List.setIfInBounds_toArray, List.set_cons_zero, List.set_cons_succ, zm, zn]
     rfl
    refine jJ (i := 3) (N := some 28) #[true, true, true, true, true, false, true, false, true, false, false, false] rfl rfl (qM HT_.out (by kernel_rfl)) (by decide) (fun K hK => ?_)
    refine jB Try.func40 (by kernel_rfl) rfl #[.int .i64 a0_0] (by rfl) rfl rfl (by (try simp only [List.map_toArray, List.map_cons, List.map_nil]); first | done | rfl | (simp only [List.length_drop, List.length_take]; rfl)) ?_
    with_reducible refine (ql.calls a0_0 t508 _ A27.out).mono ?_
    rintro e w' ⟨rfl, ⟨nd, rfl⟩⟩
    refine ⟨_, rfl, ?_⟩
    refine hK.out _ _ ⟨(zh BK504.out 0).trans rfl, (zh BK504.out 1).trans rfl⟩ (fun hHeld => ?_)
    clear hK K
    refine jh (a' := ?_) ?_ ?_
    rotate_left
    ·show Act.put _ (some 28) _ = _
     simp only [Act.put, List.setIfInBounds_toArray, List.set_cons_zero, List.set_cons_succ, zm, zn]
     rfl
    refine zE (i := 5) (N := some 30) (v := ?_) (a' := ?_) #[true, true, true, true, true, true, true, false, true, false, false, false] rfl rfl (zr HT_.out (by kernel_rfl)) (fun _ _ _ h => h) (Or.inl ⟨by rfl, ?_⟩) ?_ ?_
    rotate_left
    ·intro w'
     go_simp
     with_reducible rfl
    rotate_left
    ·simp only [Act.put, List.setIfInBounds_toArray, List.set_cons_zero, List.set_cons_succ, zm, zn]
     rfl
    refine zE (i := 7) (N := some 32) (v := ?_) (a' := ?_) #[true, true, true, true, true, true, true, true, true, false, false, false] rfl rfl (zr HT_.out (by kernel_rfl)) (fun _ _ _ h => h) (Or.inl ⟨by rfl, ?_⟩) ?_ ?_
    rotate_left
    ·intro w'
     go_simp
     with_reducible rfl
    rotate_left
    ·simp only [Act.put, List.setIfInBounds_toArray, List.set_cons_zero, List.set_cons_succ, zm, zn]
     rfl
    refine jJ (i := 9) (N := some 34) #[true, true, true, true, true, true, true, true, true, true, false, false] rfl rfl (qM HT_.out (by kernel_rfl)) (by decide) (fun K hK => ?_)
    refine jB Try.func39 (by kernel_rfl) rfl #[.agg #[.int .i64 a0_0, .slice A0_1 l0_1.length c0_1], .int .i64 (Go.bits .andNot .i64 (Go.bits .andNot .i64 t508 a1) a2), .int .i64 a2] (by rfl) rfl rfl (by (try simp only [List.map_toArray, List.map_cons, List.map_nil]); first | done | rfl | (simp only [List.length_drop, List.length_take]; rfl)) ?_
    with_reducible refine (zJ.calls kj3 a0_0 _ _ l0_1 (Go.bits .andNot .i64 (Go.bits .andNot .i64 t508 a1) a2) a2 t509 t510 _ ?side1 ?side2 A28.out).mono ?_
    (case side1 => repeat (first | exact (Kd.zG HR0_1.out (by repeat (first | (with_reducible first | exact HB.out | apply zc | apply za | apply zb | refine zd ?_ GE504.out | refine zd ?_ GE505.out) | exact HB.out))) | (with_reducible refine Kd.zI ?_ _) | (with_reducible refine Kd.zH ?_ _) | (with_reducible refine Kd.zP ?_)))
    (case side2 => exact HC0_1.out)
    rintro e w30 ⟨v511, rfl, ho0, hb⟩
    refine ⟨_, rfl, ?_⟩
    have n0_ := Aside0.mk (Kd.qB ho0 (zk (by repeat (first | (with_reducible first | exact HB.out | apply zc | apply za | apply zb | refine zd ?_ GE504.out | refine zd ?_ GE505.out) | exact HB.out))))
    have n1_ := Aside0.mk (zj (g := gb504) (o := .cells #[.int .i64 a0_0, .slice A0_1 l0_1.length c0_1] 26 (0, 0)) (by (with_reducible repeat (first | refine ze ?_ _ | refine zg ?_ | refine zf ?_ _)); exact BK504.out) hb)
    have n2_ := Aside0.mk (zj (g := gb505) (o := .cells #[.int .i64 0, .slice none 0 0] 26 (0, 0)) (by (with_reducible repeat (first | refine ze ?_ _ | refine zg ?_ | refine zf ?_ _)); exact BK505.out) hb)
    have n3_ := Aside0.mk (zl (by repeat (first | (with_reducible first | exact HB.out | apply zc | apply za | apply zb | refine zd ?_ GE504.out | refine zd ?_ GE505.out) | exact HB.out)) hb)
    clear BK504
    clear BK505
    clear HB
    have HO512 := n0_
    have BK504 := n1_
    have BK505 := n2_
    have HB := n3_
    clear n0_ n1_ n2_ n3_
    (try clear hb)
    (try clear hb2)
    (try clear hk)
    (try clear hi)
    (try clear ho0)
    obtain ⟨Ao32, co32, eo32⟩ := Kd.qo HO512.out
    (first | subst eo32 | (injection eo32 with f1_ f2_ f3_; have f4_ := f1_.symm; have f5_ := f3_.symm; clear f1_ f2_ f3_; subst f4_; subst f5_))
    refine hK.out _ _ ⟨(zh BK504.out 0).trans rfl, (zh BK504.out 1).trans rfl⟩ (fun hHeld => ?_)
    clear hK K
    refine jh (a' := ?_) ?_ ?_
    rotate_left
    ·show Act.put _ (some 34) _ = _
     simp only [Act.put, List.setIfInBounds_toArray, List.set_cons_zero, List.set_cons_succ, zm, zn]
     rfl
    refine jJ (i := 10) (N := none) #[true, true, true, true, true, true, true, true, true, true, true, false] rfl rfl (qM HT_.out (by kernel_rfl)) (by decide) (fun K hK => ?_)
    have hs31 : w30.cell? ⟨gb505, 0, none⟩ = some (.int .i64 0) := (zh BK505.out 0).trans rfl
    have hfs31 := zi BK505.out 0
    have hns31_0 := NB504_505.out
    have hms31_0 := NB505_504.out
    have hs33 : w30.cell? ⟨gb505, 1, none⟩ = some (.slice none 0 0) := (zh BK505.out 1).trans rfl
    have hfs33 := zi BK505.out 1
    have hns33_0 := NB504_505.out
    have hms33_0 := NB505_504.out
    refine JI (w1 := ?_) (by rfl) rfl ?_ ?_
    rotate_left
    ·go_simp
     rfl
    refine hK.out _ _ ⟨((cell_far (p := ⟨gb505, _, none⟩) NB504_505.out _).trans (((cell_far (p := ⟨gb505, _, none⟩) NB504_505.out _).trans (hHeld.1)))), ((cell_far (p := ⟨gb505, _, none⟩) NB504_505.out _).trans (((cell_far (p := ⟨gb505, _, none⟩) NB504_505.out _).trans (hHeld.2))))⟩ (fun hHeld => ?_)
    clear hK K
    refine zE (i := 11) (N := some 7) (v := ?_) (a' := ?_) #[true, true, true, true, true, true, true, true, true, true, true, true] rfl rfl (zr HT_.out (by kernel_rfl)) (fun _ _ _ h => h) (Or.inl ⟨by rfl, ?_⟩) ?_ ?_
    rotate_left
    ·intro w'
     go_simp
     with_reducible rfl
    rotate_left
    ·simp only [Act.put, List.setIfInBounds_toArray, List.set_cons_zero, List.set_cons_succ, zm, zn]
     rfl
    refine j4 (jm HT_.out (by kernel_rfl)) ?_
    try go_wp2
    refine bodyPost_ret (jP rfl _ _ gb505 26 #[.int .i64 t509, .slice Ao32 t510.length co32] (0, 0) _ rfl (by (with_reducible repeat (first | refine ze ?_ _ | refine zg ?_ | refine zf ?_ _)); refine zV (cs := #[.int .i64 t509, .slice none 0 0]) ?_ 1 _ rfl; (with_reducible repeat (first | refine ze ?_ _ | refine zg ?_ | refine zf ?_ _)); refine zV (cs := #[.int .i64 0, .slice none 0 0]) ?_ 0 _ rfl; (with_reducible repeat (first | refine ze ?_ _ | refine zg ?_ | refine zf ?_ _)); exact BK505.out) Try.underlying26 rfl (by kernel_rfl)) rfl ?_
    exact ⟨_, by first | rfl | (simp [zt, zu] <;> rfl) | (simp [*, zt, zu] <;> rfl), by (with_reducible repeat (first | apply Kd.zw | apply Kd.zx | apply Kd.zz)); exact Kd.qn (Kd.qx (p := ⟨gb505, 1, none⟩) (Kd.qx (p := ⟨gb505, 0, none⟩) (Kd.qG HO512.out BK505.out (by decide)) (fun _ hk => hk.2) (.int .i64 t509)) (fun _ hk => hk.2) (.slice Ao32 t510.length co32)) (fun _ hk => trivial), by repeat (first | (with_reducible first | exact HB.out | apply zc | apply za | apply zb | refine zd ?_ GE504.out | refine zd ?_ GE505.out) | exact HB.out)⟩

end Go.Proofs.Ytkmcefhchhahhaa.F
end
section
namespace Go.Proofs.Ytkmcefhchhahhaa.F
open Go.RowKit Go.Proofs.YtkmcefhchhahhaaW.PrintWords Go.Proofs.YtkmcefhchhahhaaW.PrintLast Go.Proofs.YtkmcefhchhahhaaW.PrintMore
attribute [local go_sem] jd q8 ji jj qP qN jc q4   -- for this text's walks alone
set_option linter.unusedVariables false
set_option linter.unusedSimpArgs false

def qL.f (k : Nat) (a0_0 : Int) (l0_1 : List Int) (a1 : Int) : Option (Int × List Int) := (qD.f k a0_0 l0_1 a1).bind fun t292 => (if t292 = true then ((ql.f a0_0).bind fun t293 => ((zJ.f k a0_0 l0_1 (Go.bits .andNot .i64 t293 a1) a1).bind fun bt294 => (some (bt294.1, bt294.2)))) else (some (0, ([] : List Int))))
def qL.T3 : Bool × List (List Nat × List Nat) := (true, [([], []), ([], []), ([1], [1]), ([2], [2]), ([], []), ([3, 4], [3, 4]), ([], []), ([0, 5, 6, 3], [0, 5, 6]), ([7, 7, 0, 1, 2, 3, 4, 5, 6, 7], [7])])
def qL.B3 : List Nat := [0, 0, 2, 6, 0, 30, 0, 127, 255]
theorem qL.Jb : j9 .any (opsOf Try.f14 3) = qL.T3 := by kernel_rfl
theorem qL.ZA : jM qL.T3.2 qL.B3 = true := by kernel_rfl
theorem qL.calls (k : Nat) (a0_0 : Int) (A0_1 : Option Addr) (c0_1 : Nat) (l0_1 : List Int) (a1 : Int) (r1 : Int) (r2 : List Int) (w : World) (hr0_1 : Kd.C (Kd.int .i64) w A0_1 l0_1.length l0_1) (hc0_1 : l0_1.length ≤ c0_1) (h : qL.f k a0_0 l0_1 a1 = some (r1, r2)) :
  Calls Try.prog 14 #[.agg #[.int .i64 a0_0, .slice A0_1 l0_1.length c0_1], .int .i64 a1] w fun e w' => ∃ v1_ : Value, e = .returned (.agg #[.int .i64 r1, v1_]) ∧ Kd.R (Kd.int .i64) 3 w' w.heap.size (fun _ => True) v1_ r2 ∧ Below w.heap.size w w' := by
 have hu26 := Try.underlying26
 have HR0_1 := Aside0.mk hr0_1
 have HC0_1 := Aside0.mk hc0_1
 clear hr0_1 hc0_1
 have HB := Aside0.mk (Below.refl w.heap.size w)
 have H : ((qD.f k a0_0 l0_1 a1).bind fun t292 => (if t292 = true then ((ql.f a0_0).bind fun t293 => ((zJ.f k a0_0 l0_1 (Go.bits .andNot .i64 t293 a1) a1).bind fun bt294 => (some (bt294.1, bt294.2)))) else (some (0, ([] : List Int))))) = some (r1, r2) := h
 clear h
 replace H := Option.bind_eq_some_iff.mp H
 obtain ⟨t292, A30, H⟩ := H
 replace H : (if t292 = true then ((ql.f a0_0).bind fun t293 => ((zJ.f k a0_0 l0_1 (Go.bits .andNot .i64 t293 a1) a1).bind fun bt294 => (some (bt294.1, bt294.2)))) else (some (0, ([] : List Int)))) = some (r1, r2) := H
 have A3 := Aside0.mk A30
 clear A30
 by_cases c4 : t292 = true
 ·subst c4
  have H1 : ((ql.f a0_0).bind fun t293 => ((zJ.f k a0_0 l0_1 (Go.bits .andNot .i64 t293 a1) a1).bind fun bt294 => (some (bt294.1, bt294.2)))) = some (r1, r2) := by rw [if_pos rfl] at H; exact H
  clear H
  have H := H1
  clear H1
  replace H := Option.bind_eq_some_iff.mp H
  obtain ⟨t293, A50, H⟩ := H
  replace H : ((zJ.f k a0_0 l0_1 (Go.bits .andNot .i64 t293 a1) a1).bind fun bt294 => (some (bt294.1, bt294.2))) = some (r1, r2) := H
  have A5 := Aside0.mk A50
  clear A50
  replace H := Option.bind_eq_some_iff.mp H
  obtain ⟨⟨t294, t295⟩, A60, H⟩ := H
  replace H : (some (t294, t295)) = some (r1, r2) := H
  have A6 := Aside0.mk A60
  clear A60
  simp only [Option.some.injEq, Prod.mk.injEq] at H
  obtain ⟨rfl, rfl⟩ := H
  go_enter Try.func14, Try.ntmps14
  try go_wp2_with (first | ((with_reducible refine zD (N := 2) rfl ?_); refine zA ?hg (N := 2) ?hd (cs := #[.int .i64 a0_0, .slice A0_1 l0_1.length c0_1]) (t := 26) ?hr ?_; (case hd => rfl); (case hg => rfl); (case hr => first | (go_simp; done) | (go_simp; rfl)); intro gb290 hg w7 hbox hb; have n0_ := Aside0.mk (zl (by repeat (first | (with_reducible first | exact HB.out | apply zc | apply za | apply zb) | exact HB.out)) hb); have n1_ := Aside0.mk (hbox); have n2_ := Aside0.mk ((by rw [hg]; exact (zk (by repeat (first | (with_reducible first | exact HB.out | apply zc | apply za | apply zb) | exact HB.out))) : w.heap.size ≤ gb290)); have n3_ := Aside0.mk ((by rw [hg]; exact (zk (by repeat (first | (with_reducible first | exact HB.out | apply zc | apply za | apply zb) | exact HB.out))) : w.heap.size ≤ gb290)); clear HB; have HB := n0_; have BK290 := n1_; have GW290 := n2_; have GE290 := n3_; clear n0_ n1_ n2_ n3_; clear hb hbox hg) | ((with_reducible refine zD (N := 4) rfl ?_); refine zA ?hg (N := 4) ?hd (cs := #[.int .i64 0, .slice none 0 0]) (t := 26) ?hr ?_; (case hd => rfl); (case hg => rfl); (case hr => first | (go_simp; done) | (go_simp; rfl)); intro gb291 hg w8 hbox hb; have n0_ := Aside0.mk (zj (g := gb290) (o := .cells #[.int .i64 a0_0, .slice A0_1 l0_1.length c0_1] 26 (0, 0)) (by (with_reducible repeat (first | refine ze ?_ _ | refine zg ?_ | refine zf ?_ _)); exact BK290.out) hb); have n1_ := Aside0.mk (zl (by repeat (first | (with_reducible first | exact HB.out | apply zc | apply za | apply zb | refine zd ?_ GE290.out) | exact HB.out)) hb); have n2_ := Aside0.mk (hbox); have n3_ := Aside0.mk ((by rw [hg]; exact (zk (by repeat (first | (with_reducible first | exact HB.out | apply zc | apply za | apply zb | refine zd ?_ GE290.out) | exact HB.out))) : w.heap.size ≤ gb291)); have n4_ := Aside0.mk ((by rw [hg]; exact (zk (by repeat (first | (with_reducible first | exact HB.out | apply zc | apply za | apply zb | refine zd ?_ GE290.out) | exact HB.out))) : w.heap.size ≤ gb291)); have n5_ := Aside0.mk ((by rw [hg]; exact Nat.ne_of_lt (zM (g := gb290) (o := .cells #[.int .i64 a0_0, .slice A0_1 l0_1.length c0_1] 26 (0, 0)) (by (with_reducible repeat (first | refine ze ?_ _ | refine zg ?_ | refine zf ?_ _)); exact BK290.out)) : gb290 ≠ gb291)); have n6_ := Aside0.mk ((by rw [hg]; exact Nat.ne_of_gt (zM (g := gb290) (o := .cells #[.int .i64 a0_0, .slice A0_1 l0_1.length c0_1] 26 (0, 0)) (by (with_reducible repeat (first | refine ze ?_ _ | refine zg ?_ | refine zf ?_ _)); exact BK290.out)) : gb291 ≠ gb290)); clear BK290; clear HB; have BK290 := n0_; have HB := n1_; have BK291 := n2_; have GW291 := n3_; have GE291 := n4_; have NB290_291 := n5_; have NB291_290 := n6_; clear n0_ n1_ n2_ n3_ n4_ n5_ n6_; clear hb hbox hg; have hnb9 := NB290_291.out; have hnc9 := NB291_290.out; have hcz10_0 : w8.cell? ⟨gb290, 0, none⟩ = some (.int .i64 a0_0) := (zh BK290.out 0).trans rfl; have hcz10_1 : w8.cell? ⟨gb290, 1, none⟩ = some (.slice A0_1 l0_1.length c0_1) := (zh BK290.out 1).trans rfl; have hfz10_0 := zi BK290.out 0; have hfz10_1 := zi BK290.out 1) | ((with_reducible refine zo (f := 38) rfl ?_); refine zL (some 7) rfl rfl Try.func38 (by kernel_rfl) rfl #[.agg #[.int .i64 a0_0, .slice A0_1 l0_1.length c0_1], .int .i64 a1] rfl (by (try simp only [List.map_toArray, List.map_cons, List.map_nil]); first | done | rfl | (simp only [List.length_drop, List.length_take]; rfl)) ?_; (with_reducible refine (qD.calls k a0_0 _ _ l0_1 a1 true _ ?side1 ?side2 A3.out).mono ?_); (case side1 => repeat (first | exact (Kd.zG HR0_1.out HB.out) | (with_reducible refine Kd.zI ?_ _) | (with_reducible refine Kd.zH ?_ _) | (with_reducible refine Kd.zP ?_))); (case side2 => exact HC0_1.out); rintro e w11 ⟨rfl, hb⟩; refine ⟨_, rfl, ?_⟩; have n0_ := Aside0.mk (zj (g := gb290) (o := .cells #[.int .i64 a0_0, .slice A0_1 l0_1.length c0_1] 26 (0, 0)) (by (with_reducible repeat (first | refine ze ?_ _ | refine zg ?_ | refine zf ?_ _)); exact BK290.out) hb); have n1_ := Aside0.mk (zj (g := gb291) (o := .cells #[.int .i64 0, .slice none 0 0] 26 (0, 0)) (by (with_reducible repeat (first | refine ze ?_ _ | refine zg ?_ | refine zf ?_ _)); exact BK291.out) hb); have n2_ := Aside0.mk (zl (by repeat (first | (with_reducible first | exact HB.out | apply zc | apply za | apply zb | refine zd ?_ GE290.out | refine zd ?_ GE291.out) | exact HB.out)) hb); clear BK290; clear BK291; clear HB; have BK290 := n0_; have BK291 := n1_; have HB := n2_; clear n0_ n1_ n2_; (try clear hb); (try clear hb2); (try clear hk); (try clear hi)))
  have n0_ := Aside0.mk (zg BK290.out)
  have n1_ := Aside0.mk (zg BK291.out)
  have n2_ := Aside0.mk (zb HB.out)
  clear BK290
  clear BK291
  clear HB
  have BK290 := n0_
  have BK291 := n1_
  have HB := n2_
  clear n0_ n1_ n2_
  refine jA (n := 9) (S := fun w' => w'.cell? ⟨gb290, 0, none⟩ = some (.int .i64 a0_0) ∧ w'.cell? ⟨gb290, 1, none⟩ = some (.slice A0_1 l0_1.length c0_1)) (ds := []) #[false, false, false, false, false, false, false, false, false] (by kernel_rfl) rfl rfl ⟨(zh BK290.out 0).trans rfl, (zh BK290.out 1).trans rfl⟩ (fun hHeld => ?_); refine qO qL.Jb qL.ZA (fun HT_ HW_ => ?_)
  generalize w11.drew = w12 at BK290 BK291 HB hHeld ⊢
  refine zE (i := 1) (N := some 11) (v := ?_) (a' := ?_) #[false, true, false, false, false, false, false, false, false] rfl rfl (zr HT_.out (by kernel_rfl)) (fun _ _ _ h => h) (Or.inl ⟨by rfl, ?_⟩) ?_ ?_
  rotate_left
  ·intro w'
   go_simp
   with_reducible rfl
  rotate_left
  ·simp only [Act.put, List.setIfInBounds_toArray, List.set_cons_zero, List.set_cons_succ, zm, zn]
   rfl
  refine zE (i := 4) (N := some 14) (v := ?_) (a' := ?_) #[false, true, false, false, true, false, false, false, false] rfl rfl (zr HT_.out (by kernel_rfl)) (fun _ _ _ h => h) (Or.inl ⟨by rfl, ?_⟩) ?_ ?_
  rotate_left
  ·intro w'
   go_simp
   with_reducible rfl
  rotate_left
  ·simp only [Act.put, List.setIfInBounds_toArray, List.set_cons_zero, List.set_cons_succ, zm, zn]
   rfl
  refine zE (i := 6) (N := some 16) (v := ?_) (a' := ?_) #[false, true, false, false, true, false, true, false, false] rfl rfl (zr HT_.out (by kernel_rfl)) (fun _ _ _ h => h) (Or.inl ⟨by rfl, ?_⟩) ?_ ?_
  rotate_left
  ·intro w'
   go_simp
   with_reducible rfl
  rotate_left
  ·simp only [Act.put, List.setIfInBounds_toArray, List.set_cons_zero, List.set_cons_succ, zm, zn]
   rfl
  refine jf (i := 0) (N := some 10) (v := ?_) (a' := ?_) #[true, true, false, false, true, false, true, false, false] rfl rfl (qu HT_.out HW_.out (by kernel_rfl)) (fun _ _ _ h => h) (Or.inl ⟨by rfl, ?_⟩) hHeld ?_ ?_
  rotate_left
  ·rintro w' ⟨s0, s1⟩
   go_simp
   with_reducible rfl
  rotate_left
  ·simp only [Act.put, List.setIfInBounds_toArray, List.set_cons_zero, List.set_cons_succ, zm, zn]
   rfl
  refine jf (i := 2) (N := some 12) (v := ?_) (a' := ?_) #[true, true, true, false, true, false, true, false, false] rfl rfl (qu HT_.out HW_.out (by kernel_rfl)) (fun _ _ _ h => h) (Or.inl ⟨by rfl, ?_⟩) hHeld ?_ ?_
  rotate_left
  ·rintro w' ⟨s0, s1⟩
   go_simp
   with_reducible rfl
  rotate_left
  ·simp only [Act.put, List.setIfInBounds_toArray, List.set_cons_zero, List.set_cons_succ, zm, zn]
   rfl
  refine jJ (i := 3) (N := some 13) #[true, true, true, true, true, false, true, false, false] rfl rfl (qM HT_.out (by kernel_rfl)) (by decide) (fun K hK => ?_)
  refine jB Try.func40 (by kernel_rfl) rfl #[.int .i64 a0_0] (by rfl) rfl rfl (by (try simp only [List.map_toArray, List.map_cons, List.map_nil]); first | done | rfl | (simp only [List.length_drop, List.length_take]; rfl)) ?_
  with_reducible refine (ql.calls a0_0 t293 _ A5.out).mono ?_
  rintro e w' ⟨rfl, ⟨nd, rfl⟩⟩
  refine ⟨_, rfl, ?_⟩
  refine hK.out _ _ ⟨(zh BK290.out 0).trans rfl, (zh BK290.out 1).trans rfl⟩ (fun hHeld => ?_)
  clear hK K
  refine jh (a' := ?_) ?_ ?_
  rotate_left
  ·show Act.put _ (some 13) _ = _
   simp only [Act.put, List.setIfInBounds_toArray, List.set_cons_zero, List.set_cons_succ, zm, zn]
   rfl
  refine zE (i := 5) (N := some 15) (v := ?_) (a' := ?_) #[true, true, true, true, true, true, true, false, false] rfl rfl (zr HT_.out (by kernel_rfl)) (fun _ _ _ h => h) (Or.inl ⟨by rfl, ?_⟩) ?_ ?_
  rotate_left
  ·intro w'
   go_simp
   with_reducible rfl
  rotate_left
  ·simp only [Act.put, List.setIfInBounds_toArray, List.set_cons_zero, List.set_cons_succ, zm, zn]
   rfl
  refine jJ (i := 7) (N := some 17) #[true, true, true, true, true, true, true, true, false] rfl rfl (qM HT_.out (by kernel_rfl)) (by decide) (fun K hK => ?_)
  refine jB Try.func39 (by kernel_rfl) rfl #[.agg #[.int .i64 a0_0, .slice A0_1 l0_1.length c0_1], .int .i64 (Go.bits .andNot .i64 t293 a1), .int .i64 a1] (by rfl) rfl rfl (by (try simp only [List.map_toArray, List.map_cons, List.map_nil]); first | done | rfl | (simp only [List.length_drop, List.length_take]; rfl)) ?_
  with_reducible refine (zJ.calls k a0_0 _ _ l0_1 (Go.bits .andNot .i64 t293 a1) a1 t294 t295 _ ?side1 ?side2 A6.out).mono ?_
  (case side1 => repeat (first | exact (Kd.zG HR0_1.out (by repeat (first | (with_reducible first | exact HB.out | apply zc | apply za | apply zb | refine zd ?_ GE290.out | refine zd ?_ GE291.out) | exact HB.out))) | (with_reducible refine Kd.zI ?_ _) | (with_reducible refine Kd.zH ?_ _) | (with_reducible refine Kd.zP ?_)))
  (case side2 => exact HC0_1.out)
  rintro e w13 ⟨v296, rfl, ho0, hb⟩
  refine ⟨_, rfl, ?_⟩
  have n0_ := Aside0.mk (Kd.qB ho0 (zk (by repeat (first | (with_reducible first | exact HB.out | apply zc | apply za | apply zb | refine zd ?_ GE290.out | refine zd ?_ GE291.out) | exact HB.out))))
  have n1_ := Aside0.mk (zj (g := gb290) (o := .cells #[.int .i64 a0_0, .slice A0_1 l0_1.length c0_1] 26 (0, 0)) (by (with_reducible repeat (first | refine ze ?_ _ | refine zg ?_ | refine zf ?_ _)); exact BK290.out) hb)
  have n2_ := Aside0.mk (zj (g := gb291) (o := .cells #[.int .i64 0, .slice none 0 0] 26 (0, 0)) (by (with_reducible repeat (first | refine ze ?_ _ | refine zg ?_ | refine zf ?_ _)); exact BK291.out) hb)
  have n3_ := Aside0.mk (zl (by repeat (first | (with_reducible first | exact HB.out | apply zc | apply za | apply zb | refine zd ?_ GE290.out | refine zd ?_ GE291.out) | exact HB.out)) hb)
  clear BK290
  clear BK291
  clear HB
  have HO297 := n0_
  have BK290 := n1_
  have BK291 := n2_
  have HB := n3_
  clear n0_ n1_ n2_ n3_
  (try clear hb)
  (try clear hb2)
  (try clear hk)
  (try clear hi)
  (try clear ho0)
  obtain ⟨Ao15, co15, eo15⟩ := Kd.qo HO297.out
  (first | subst eo15 | (injection eo15 with f1_ f2_ f3_; have f4_ := f1_.symm; have f5_ := f3_.symm; clear f1_ f2_ f3_; subst f4_; subst f5_))
  refine hK.out _ _ ⟨(zh BK290.out 0).trans rfl, (zh BK290.out 1).trans rfl⟩ (fun hHeld => ?_)
  clear hK K
  refine jh (a' := ?_) ?_ ?_
  rotate_left
  ·show Act.put _ (some 17) _ = _
   simp only [Act.put, List.setIfInBounds_toArray, List.set_cons_zero, List.set_cons_succ, zm, zn]
   rfl
  refine jJ (i := 8) (N := none) #[true, true, true, true, true, true, true, true, true] rfl rfl (qM HT_.out (by kernel_rfl)) (by decide) (fun K hK => ?_)
  have hs14 : w13.cell? ⟨gb291, 0, none⟩ = some (.int .i64 0) := (zh BK291.out 0).trans rfl
  have hfs14 := zi BK291.out 0
  have hns14_0 := NB290_291.out
  have hms14_0 := NB291_290.out
  have hs16 : w13.cell? ⟨gb291, 1, none⟩ = some (.slice none 0 0) := (zh BK291.out 1).trans rfl
  have hfs16 := zi BK291.out 1
  have hns16_0 := NB290_291.out
  have hms16_0 := NB291_290.out
  refine JI (w1 := ?_) (by rfl) rfl ?_ ?_
  rotate_left
  ·go_simp
   rfl
  refine hK.out _ _ ⟨((cell_far (p := ⟨gb291, _, none⟩) NB290_291.out _).trans (((cell_far (p := ⟨gb291, _, none⟩) NB290_291.out _).trans (hHeld.1)))), ((cell_far (p := ⟨gb291, _, none⟩) NB290_291.out _).trans (((cell_far (p := ⟨gb291, _, none⟩) NB290_291.out _).trans (hHeld.2))))⟩ (fun hHeld => ?_)
  clear hK K
  refine j4 (jm HT_.out (by kernel_rfl)) ?_
  try go_wp2
  refine bodyPost_ret (results_cell_row rfl _ _ gb291 26 #[.int .i64 t294, .slice Ao15 t295.length co15] (0, 0) _ rfl (by (with_reducible repeat (first | refine ze ?_ _ | refine zg ?_ | refine zf ?_ _)); refine zV (cs := #[.int .i64 t294, .slice none 0 0]) ?_ 1 _ rfl; (with_reducible repeat (first | refine ze ?_ _ | refine zg ?_ | refine zf ?_ _)); refine zV (cs := #[.int .i64 0, .slice none 0 0]) ?_ 0 _ rfl; (with_reducible repeat (first | refine ze ?_ _ | refine zg ?_ | refine zf ?_ _)); exact BK291.out) Try.underlying26 rfl (by kernel_rfl)) rfl ?_
  exact ⟨_, by first | rfl | (simp [zt, zu] <;> rfl) | (simp [*, zt, zu] <;> rfl), by (with_reducible repeat (first | apply Kd.zw | apply Kd.zx | apply Kd.zz)); exact Kd.qn (Kd.qx (p := ⟨gb291, 1, none⟩) (Kd.qx (p := ⟨gb291, 0, none⟩) (Kd.qG HO297.out BK291.out (by decide)) (fun _ hk => hk.2) (.int .i64 t294)) (fun _ hk => hk.2) (.slice Ao15 t295.length co15)) (fun _ hk => trivial), by repeat (first | (with_reducible first | exact HB.out | apply zc | apply za | apply zb | refine zd ?_ GE290.out | refine zd ?_ GE291.out) | exact HB.out)⟩
 ·replace c4 := Bool.eq_false_iff.mpr c4
  subst c4
  have H1 : (some (0, ([] : List Int))) = some (r1, r2) := by rw [if_neg (show ¬ (false = true) by decide)] at H; exact H
  clear H
  have H := H1
  clear H1
  simp only [Option.some.injEq, Prod.mk.injEq] at H
  obtain ⟨rfl, rfl⟩ := H
  go_enter Try.func14, Try.ntmps14
  go_wp2_with (first | ((with_reducible refine zD (N := 2) rfl ?_); refine zA ?hg (N := 2) ?hd (cs := #[.int .i64 a0_0, .slice A0_1 l0_1.length c0_1]) (t := 26) ?hr ?_; (case hd => rfl); (case hg => rfl); (case hr => first | (go_simp; done) | (go_simp; rfl)); intro gb290 hg w17 hbox hb; have n0_ := Aside0.mk (zl (by repeat (first | (with_reducible first | exact HB.out | apply zc | apply za | apply zb) | exact HB.out)) hb); have n1_ := Aside0.mk (hbox); have n2_ := Aside0.mk ((by rw [hg]; exact (zk (by repeat (first | (with_reducible first | exact HB.out | apply zc | apply za | apply zb) | exact HB.out))) : w.heap.size ≤ gb290)); have n3_ := Aside0.mk ((by rw [hg]; exact (zk (by repeat (first | (with_reducible first | exact HB.out | apply zc | apply za | apply zb) | exact HB.out))) : w.heap.size ≤ gb290)); clear HB; have HB := n0_; have BK290 := n1_; have GW290 := n2_; have GE290 := n3_; clear n0_ n1_ n2_ n3_; clear hb hbox hg) | ((with_reducible refine zD (N := 4) rfl ?_); refine zA ?hg (N := 4) ?hd (cs := #[.int .i64 0, .slice none 0 0]) (t := 26) ?hr ?_; (case hd => rfl); (case hg => rfl); (case hr => first | (go_simp; done) | (go_simp; rfl)); intro gb291 hg w18 hbox hb; have n0_ := Aside0.mk (zj (g := gb290) (o := .cells #[.int .i64 a0_0, .slice A0_1 l0_1.length c0_1] 26 (0, 0)) (by (with_reducible repeat (first | refine ze ?_ _ | refine zg ?_ | refine zf ?_ _)); exact BK290.out) hb); have n1_ := Aside0.mk (zl (by repeat (first | (with_reducible first | exact HB.out | apply zc | apply za | apply zb | refine zd ?_ GE290.out) | exact HB.out)) hb); have n2_ := Aside0.mk (hbox); have n3_ := Aside0.mk ((by rw [hg]; exact (zk (by repeat (first | (with_reducible first | exact HB.out | apply zc | apply za | apply zb | refine zd ?_ GE290.out) | exact HB.out))) : w.heap.size ≤ gb291)); have n4_ := Aside0.mk ((by rw [hg]; exact (zk (by repeat (first | (with_reducible first | exact HB.out | apply zc | apply za | apply zb | refine zd ?_ GE290.out) | exact HB.out))) : w.heap.size ≤ gb291)); have n5_ := Aside0.mk ((by rw [hg]; exact Nat.ne_of_lt (zM (g := gb290) (o := .cells #[.int .i64 a0_0, .slice A0_1 l0_1.length c0_1] 26 (0, 0)) (by (with_reducible repeat (first | refine ze ?_ _ | refine zg ?_ | refine zf ?_ _)); exact BK290.out)) : gb290 ≠ gb291)); have n6_ := Aside0.mk ((by rw [hg]; exact Nat.ne_of_gt (zM (g := gb290) (o := .cells #[.int .i64 a0_0, .slice A0_1 l0_1.length c0_1] 26 (0, 0)) (by (with_reducible repeat (first | refine ze ?_ _ | refine zg ?_ | refine zf ?_ _)); exact BK290.out)) : gb291 ≠ gb290)); clear BK290; clear HB; have BK290 := n0_; have HB := n1_; have BK291 := n2_; have GW291 := n3_; have GE291 := n4_; have NB290_291 := n5_; have NB291_290 := n6_; clear n0_ n1_ n2_ n3_ n4_ n5_ n6_; clear hb hbox hg; have hnb19 := NB290_291.out; have hnc19 := NB291_290.out; have hcz20_0 : w18.cell? ⟨gb290, 0, none⟩ = some (.int .i64 a0_0) := (zh BK290.out 0).trans rfl; have hcz20_1 : w18.cell? ⟨gb290, 1, none⟩ = some (.slice A0_1 l0_1.length c0_1) := (zh BK290.out 1).trans rfl; have hfz20_0 := zi BK290.out 0; have hfz20_1 := zi BK290.out 1) | ((with_reducible refine zo (f := 38) rfl ?_); refine zL (some 7) rfl rfl Try.func38 (by kernel_rfl) rfl #[.agg #[.int .i64 a0_0, .slice A0_1 l0_1.length c0_1], .int .i64 a1] rfl (by (try simp only [List.map_toArray, List.map_cons, List.map_nil]); first | done | rfl | (simp only [List.length_drop, List.length_take]; rfl)) ?_; (with_reducible refine (qD.calls k a0_0 _ _ l0_1 a1 false _ ?side1 ?side2 A3.out).mono ?_); (case side1 => repeat (first | exact (Kd.zG HR0_1.out HB.out) | (with_reducible refine Kd.zI ?_ _) | (with_reducible refine Kd.zH ?_ _) | (with_reducible refine Kd.zP ?_))); (case side2 => exact HC0_1.out); rintro e w21 ⟨rfl, hb⟩; refine ⟨_, rfl, ?_⟩; have n0_ := Aside0.mk (zj (g := gb290) (o := .cells #[.int .i64 a0_0, .slice A0_1 l0_1.length c0_1] 26 (0, 0)) (by (with_reducible repeat (first | refine ze ?_ _ | refine zg ?_ | refine zf ?_ _)); exact BK290.out) hb); have n1_ := Aside0.mk (zj (g := gb291) (o := .cells #[.int .i64 0, .slice none 0 0] 26 (0, 0)) (by (with_reducible repeat (first | refine ze ?_ _ | refine zg ?_ | refine zf ?_ _)); exact BK291.out) hb); have n2_ := Aside0.mk (zl (by repeat (first | (with_reducible first | exact HB.out | apply zc | apply za | apply zb | refine zd ?_ GE290.out | refine zd ?_ GE291.out) | exact HB.out)) hb); clear BK290; clear BK291; clear HB; have BK290 := n0_; have BK291 := n1_; have HB := n2_; clear n0_ n1_ n2_; (try clear hb); (try clear hb2); (try clear hk); (try clear hi); have hcz22_0 : w21.cell? ⟨gb291, 0, none⟩ = some (.int .i64 0) := (zh BK291.out 0).trans rfl; have hcz22_1 : w21.cell? ⟨gb291, 1, none⟩ = some (.slice none 0 0) := (zh BK291.out 1).trans rfl; have hfz22_0 := zi BK291.out 0; have hfz22_1 := zi BK291.out 1))
  refine bodyPost_ret (results_cell_row rfl _ _ gb291 26 #[.int .i64 0, .slice none 0 0] (0, 0) _ rfl (by (with_reducible repeat (first | refine ze ?_ _ | refine zg ?_ | refine zf ?_ _)); refine zV (cs := #[.int .i64 0, .slice none 0 0]) ?_ 1 _ rfl; (with_reducible repeat (first | refine ze ?_ _ | refine zg ?_ | refine zf ?_ _)); refine zV (cs := #[.int .i64 0, .slice none 0 0]) ?_ 0 _ rfl; (with_reducible repeat (first | refine ze ?_ _ | refine zg ?_ | refine zf ?_ _)); exact BK291.out) Try.underlying26 rfl (by kernel_rfl)) rfl ?_
  exact ⟨_, by first | rfl | (simp [zt, zu] <;> rfl) | (simp [*, zt, zu] <;> rfl), by first | exact Kd.yE _ _ _ _ _ | exact Kd.Ze _ _ _ _ _ | exact Kd.ZF _ _ _ _ _ | exact Kd.Zw _ _ _ _ _ | exact Kd.Zt _ _ _ _ _, by repeat (first | (with_reducible first | exact HB.out | apply zc | apply za | apply zb | refine zd ?_ GE290.out | refine zd ?_ GE291.out) | exact HB.out)⟩

end Go.Proofs.Ytkmcefhchhahhaa.F
end
section
namespace Go.Proofs.Ytkmcefhchhahhaa.F
open Go.RowKit Go.Proofs.YtkmcefhchhahhaaW.PrintWords Go.Proofs.YtkmcefhchhahhaaW.PrintLast Go.Proofs.YtkmcefhchhahhaaW.PrintMore
attribute [local go_sem] jd q8 ji jj qP qN jc q4   -- for this text's walks alone
set_option linter.unusedVariables false
set_option linter.unusedSimpArgs false

def jb.f (k : Nat) (a0_0 : Int) (l0_1 : List Int) (a1 : Int) : Option (Int × List Int) := (qD.f k a0_0 l0_1 a1).bind fun t381 => (if t381 = true then ((ql.f a0_0).bind fun t382 => ((zJ.f k a0_0 l0_1 (Go.bits .andNot .i64 t382 a1) 0).bind fun bt383 => (some (bt383.1, bt383.2)))) else (some (0, ([] : List Int))))
def jb.T3 : Bool × List (List Nat × List Nat) := (true, [([], []), ([], []), ([1], [1]), ([2], [2]), ([], []), ([3, 4], [3, 4]), ([0, 5, 3], [0, 5]), ([6, 6, 0, 1, 2, 3, 4, 5, 6], [6])])
def jb.B3 : List Nat := [0, 0, 2, 6, 0, 30, 63, 127]
theorem jb.Jb : j9 .any (opsOf Try.f19 3) = jb.T3 := by kernel_rfl
theorem jb.ZA : jM jb.T3.2 jb.B3 = true := by kernel_rfl
theorem jb.calls (k : Nat) (a0_0 : Int) (A0_1 : Option Addr) (c0_1 : Nat) (l0_1 : List Int) (a1 : Int) (r1 : Int) (r2 : List Int) (w : World) (hr0_1 : Kd.C (Kd.int .i64) w A0_1 l0_1.length l0_1) (hc0_1 : l0_1.length ≤ c0_1) (h : jb.f k a0_0 l0_1 a1 = some (r1, r2)) :
  Calls Try.prog 19 #[.agg #[.int .i64 a0_0, .slice A0_1 l0_1.length c0_1], .int .i64 a1] w fun e w' => ∃ v1_ : Value, e = .returned (.agg #[.int .i64 r1, v1_]) ∧ Kd.R (Kd.int .i64) 3 w' w.heap.size (fun _ => True) v1_ r2 ∧ Below w.heap.size w w' := by
 have hu26 := Try.underlying26
 have HR0_1 := Aside0.mk hr0_1
 have HC0_1 := Aside0.mk hc0_1
 clear hr0_1 hc0_1
 have HB := Aside0.mk (Below.refl w.heap.size w)
 have H : ((qD.f k a0_0 l0_1 a1).bind fun t381 => (if t381 = true then ((ql.f a0_0).bind fun t382 => ((zJ.f k a0_0 l0_1 (Go.bits .andNot .i64 t382 a1) 0).bind fun bt383 => (some (bt383.1, bt383.2)))) else (some (0, ([] : List Int))))) = some (r1, r2) := h
 clear h
 replace H := Option.bind_eq_some_iff.mp H
 obtain ⟨t381, A30, H⟩ := H
 replace H : (if t381 = true then ((ql.f a0_0).bind fun t382 => ((zJ.f k a0_0 l0_1 (Go.bits .andNot .i64 t382 a1) 0).bind fun bt383 => (some (bt383.1, bt383.2)))) else (some (0, ([] : List Int)))) = some (r1, r2) := H
 have A3 := Aside0.mk A30
 clear A30
 by_cases c4 : t381 = true
 ·subst c4
  have H1 : ((ql.f a0_0).bind fun t382 => ((zJ.f k a0_0 l0_1 (Go.bits .andNot .i64 t382 a1) 0).bind fun bt383 => (some (bt383.1, bt383.2)))) = some (r1, r2) := by rw [if_pos rfl] at H; exact H
  clear H
  have H := H1
  clear H1
  replace H := Option.bind_eq_some_iff.mp H
  obtain ⟨t382, A50, H⟩ := H
  replace H : ((zJ.f k a0_0 l0_1 (Go.bits .andNot .i64 t382 a1) 0).bind fun bt383 => (some (bt383.1, bt383.2))) = some (r1, r2) := H
  have A5 := Aside0.mk A50
  clear A50
  replace H := Option.bind_eq_some_iff.mp H
  obtain ⟨⟨t383, t384⟩, A60, H⟩ := H
  replace H : (some (t383, t384)) = some (r1, r2) := H
  have A6 := Aside0.mk A60
  clear A60
  simp only [Option.some.injEq, Prod.mk.injEq] at H
  obtain ⟨rfl, rfl⟩ := H
  go_enter Try.func19, Try.ntmps19
  try go_wp2_with (first | ((with_reducible refine zD (N := 2) rfl ?_); refine zA ?hg (N := 2) ?hd (cs := #[.int .i64 a0_0, .slice A0_1 l0_1.length c0_1]) (t := 26) ?hr ?_; (case hd => rfl); (case hg => rfl); (case hr => first | (go_simp; done) | (go_simp; rfl)); intro gb379 hg w7 hbox hb; have n0_ := Aside0.mk (zl (by repeat (first | (with_reducible first | exact HB.out | apply zc | apply za | apply zb) | exact HB.out)) hb); have n1_ := Aside0.mk (hbox); have n2_ := Aside0.mk ((by rw [hg]; exact (zk (by repeat (first | (with_reducible first | exact HB.out | apply zc | apply za | apply zb) | exact HB.out))) : w.heap.size ≤ gb379)); have n3_ := Aside0.mk ((by rw [hg]; exact (zk (by repeat (first | (with_reducible first | exact HB.out | apply zc | apply za | apply zb) | exact HB.out))) : w.heap.size ≤ gb379)); clear HB; have HB := n0_; have BK379 := n1_; have GW379 := n2_; have GE379 := n3_; clear n0_ n1_ n2_ n3_; clear hb hbox hg) | ((with_reducible refine zD (N := 4) rfl ?_); refine zA ?hg (N := 4) ?hd (cs := #[.int .i64 0, .slice none 0 0]) (t := 26) ?hr ?_; (case hd => rfl); (case hg => rfl); (case hr => first | (go_simp; done) | (go_simp; rfl)); intro gb380 hg w8 hbox hb; have n0_ := Aside0.mk (zj (g := gb379) (o := .cells #[.int .i64 a0_0, .slice A0_1 l0_1.length c0_1] 26 (0, 0)) (by (with_reducible repeat (first | refine ze ?_ _ | refine zg ?_ | refine zf ?_ _)); exact BK379.out) hb); have n1_ := Aside0.mk (zl (by repeat (first | (with_reducible first | exact HB.out | apply zc | apply za | apply zb | refine zd ?_ GE379.out) | exact HB.out)) hb); have n2_ := Aside0.mk (hbox); have n3_ := Aside0.mk ((by rw [hg]; exact (zk (by repeat (first | (with_reducible first | exact HB.out | apply zc | apply za | apply zb | refine zd ?_ GE379.out) | exact HB.out))) : w.heap.size ≤ gb380)); have n4_ := Aside0.mk ((by rw [hg]; exact (zk (by repeat (first | (with_reducible first | exact HB.out | apply zc | apply za | apply zb | refine zd ?_ GE379.out) | exact HB.out))) : w.heap.size ≤ gb380)); have n5_ := Aside0.mk ((by rw [hg]; exact Nat.ne_of_lt (zM (g := gb379) (o := .cells #[.int .i64 a0_0, .slice A0_1 l0_1.length c0_1] 26 (0, 0)) (by (with_reducible repeat (first | refine ze ?_ _ | refine zg ?_ | refine zf ?_ _)); exact BK379.out)) : gb379 ≠ gb380)); have n6_ := Aside0.mk ((by rw [hg]; exact Nat.ne_of_gt (zM (g := gb379) (o := .cells #[.int .i64 a0_0, .slice A0_1 l0_1.length c0_1] 26 (0, 0)) (by (with_reducible repeat (first | refine ze ?_ _ | refine zg ?_ | refine zf ?_ _)); exact BK379.out)) : gb380 ≠ gb379)); clear BK379; clear HB; have BK379 := n0_; have HB := n1_; have BK380 := n2_; have GW380 := n3_; have GE380 := n4_; have NB379_380 := n5_; have NB380_379 := n6_; clear n0_ n1_ n2_ n3_ n4_ n5_ n6_; clear hb hbox hg; have hnb9 := NB379_380.out; have hnc9 := NB380_379.out; have hcz10_0 : w8.cell? ⟨gb379, 0, none⟩ = some (.int .i64 a0_0) := (zh BK379.out 0).trans rfl; have hcz10_1 : w8.cell? ⟨gb379, 1, none⟩ = some (.slice A0_1 l0_1.length c0_1) := (zh BK379.out 1).trans rfl; have hfz10_0 := zi BK379.out 0; have hfz10_1 := zi BK379.out 1) | ((with_reducible refine zo (f := 38) rfl ?_); refine zL (some 7) rfl rfl Try.func38 (by kernel_rfl) rfl #[.agg #[.int .i64 a0_0, .slice A0_1 l0_1.length c0_1], .int .i64 a1] rfl (by (try simp only [List.map_toArray, List.map_cons, List.map_nil]); first | done | rfl | (simp only [List.length_drop, List.length_take]; rfl)) ?_; (with_reducible refine (qD.calls k a0_0 _ _ l0_1 a1 true _ ?side1 ?side2 A3.out).mono ?_); (case side1 => repeat (first | exact (Kd.zG HR0_1.out HB.out) | (with_reducible refine Kd.zI ?_ _) | (with_reducible refine Kd.zH ?_ _) | (with_reducible refine Kd.zP ?_))); (case side2 => exact HC0_1.out); rintro e w11 ⟨rfl, hb⟩; refine ⟨_, rfl, ?_⟩; have n0_ := Aside0.mk (zj (g := gb379) (o := .cells #[.int .i64 a0_0, .slice A0_1 l0_1.length c0_1] 26 (0, 0)) (by (with_reducible repeat (first | refine ze ?_ _ | refine zg ?_ | refine zf ?_ _)); exact BK379.out) hb); have n1_ := Aside0.mk (zj (g := gb380) (o := .cells #[.int .i64 0, .slice none 0 0] 26 (0, 0)) (by (with_reducible repeat (first | refine ze ?_ _ | refine zg ?_ | refine zf ?_ _)); exact BK380.out) hb); have n2_ := Aside0.mk (zl (by repeat (first | (with_reducible first | exact HB.out | apply zc | apply za | apply zb | refine zd ?_ GE379.out | refine zd ?_ GE380.out) | exact HB.out)) hb); clear BK379; clear BK380; clear HB; have BK379 := n0_; have BK380 := n1_; have HB := n2_; clear n0_ n1_ n2_; (try clear hb); (try clear hb2); (try clear hk); (try clear hi)))
  have n0_ := Aside0.mk (zg BK379.out)
  have n1_ := Aside0.mk (zg BK380.out)
  have n2_ := Aside0.mk (zb HB.out)
  clear BK379
  clear BK380
  clear HB
  have BK379 := n0_
  have BK380 := n1_
  have HB := n2_
  clear n0_ n1_ n2_
  refine jA (n := 8) (S := fun w' => w'.cell? ⟨gb379, 0, none⟩ = some (.int .i64 a0_0) ∧ w'.cell? ⟨gb379, 1, none⟩ = some (.slice A0_1 l0_1.length c0_1)) (ds := []) #[false, false, false, false, false, false, false, false] (by kernel_rfl) rfl rfl ⟨(zh BK379.out 0).trans rfl, (zh BK379.out 1).trans rfl⟩ (fun hHeld => ?_); refine qO jb.Jb jb.ZA (fun HT_ HW_ => ?_)
  generalize w11.drew = w12 at BK379 BK380 HB hHeld ⊢
  refine zE (i := 1) (N := some 11) (v := ?_) (a' := ?_) #[false, true, false, false, false, false, false, false] rfl rfl (zr HT_.out (by kernel_rfl)) (fun _ _ _ h => h) (Or.inl ⟨by rfl, ?_⟩) ?_ ?_
  rotate_left
  ·intro w'
   go_simp
   with_reducible rfl
  rotate_left
  ·simp only [Act.put, List.setIfInBounds_toArray, List.set_cons_zero, List.set_cons_succ, zm, zn]
   rfl
  refine zE (i := 4) (N := some 14) (v := ?_) (a' := ?_) #[false, true, false, false, true, false, false, false] rfl rfl (zr HT_.out (by kernel_rfl)) (fun _ _ _ h => h) (Or.inl ⟨by rfl, ?_⟩) ?_ ?_
  rotate_left
  ·intro w'
   go_simp
   with_reducible rfl
  rotate_left
  ·simp only [Act.put, List.setIfInBounds_toArray, List.set_cons_zero, List.set_cons_succ, zm, zn]
   rfl
  refine jf (i := 0) (N := some 10) (v := ?_) (a' := ?_) #[true, true, false, false, true, false, false, false] rfl rfl (qu HT_.out HW_.out (by kernel_rfl)) (fun _ _ _ h => h) (Or.inl ⟨by rfl, ?_⟩) hHeld ?_ ?_
  rotate_left
  ·rintro w' ⟨s0, s1⟩
   go_simp
   with_reducible rfl
  rotate_left
  ·simp only [Act.put, List.setIfInBounds_toArray, List.set_cons_zero, List.set_cons_succ, zm, zn]
   rfl
  refine jf (i := 2) (N := some 12) (v := ?_) (a' := ?_) #[true, true, true, false, true, false, false, false] rfl rfl (qu HT_.out HW_.out (by kernel_rfl)) (fun _ _ _ h => h) (Or.inl ⟨by rfl, ?_⟩) hHeld ?_ ?_
  rotate_left
  ·rintro w' ⟨s0, s1⟩
   go_simp
   with_reducible rfl
  rotate_left
  ·simp only [Act.put, List.setIfInBounds_toArray, List.set_cons_zero, List.set_cons_succ, zm, zn]
   rfl
  refine jJ (i := 3) (N := some 13) #[true, true, true, true, true, false, false, false] rfl rfl (qM HT_.out (by kernel_rfl)) (by decide) (fun K hK => ?_)
  refine jB Try.func40 (by kernel_rfl) rfl #[.int .i64 a0_0] (by rfl) rfl rfl (by (try simp only [List.map_toArray, List.map_cons, List.map_nil]); first | done | rfl | (simp only [List.length_drop, List.length_take]; rfl)) ?_
  with_reducible refine (ql.calls a0_0 t382 _ A5.out).mono ?_
  rintro e w' ⟨rfl, ⟨nd, rfl⟩⟩
  refine ⟨_, rfl, ?_⟩
  refine hK.out _ _ ⟨(zh BK379.out 0).trans rfl, (zh BK379.out 1).trans rfl⟩ (fun hHeld => ?_)
  clear hK K
  refine jh (a' := ?_) ?_ ?_
  rotate_left
  ·show Act.put _ (some 13) _ = _
   simp only [Act.put, List.setIfInBounds_toArray, List.set_cons_zero, List.set_cons_succ, zm, zn]
   rfl
  refine zE (i := 5) (N := some 15) (v := ?_) (a' := ?_) #[true, true, true, true, true, true, false, false] rfl rfl (zr HT_.out (by kernel_rfl)) (fun _ _ _ h => h) (Or.inl ⟨by rfl, ?_⟩) ?_ ?_
  rotate_left
  ·intro w'
   go_simp
   with_reducible rfl
  rotate_left
  ·simp only [Act.put, List.setIfInBounds_toArray, List.set_cons_zero, List.set_cons_succ, zm, zn]
   rfl
  refine jJ (i := 6) (N := some 16) #[true, true, true, true, true, true, true, false] rfl rfl (qM HT_.out (by kernel_rfl)) (by decide) (fun K hK => ?_)
  refine jB Try.func39 (by kernel_rfl) rfl #[.agg #[.int .i64 a0_0, .slice A0_1 l0_1.length c0_1], .int .i64 (Go.bits .andNot .i64 t382 a1), .int .i64 0] (by rfl) rfl rfl (by (try simp only [List.map_toArray, List.map_cons, List.map_nil]); first | done | rfl | (simp only [List.length_drop, List.length_take]; rfl)) ?_
  with_reducible refine (zJ.calls k a0_0 _ _ l0_1 (Go.bits .andNot .i64 t382 a1) 0 t383 t384 _ ?side1 ?side2 A6.out).mono ?_
  (case side1 => repeat (first | exact (Kd.zG HR0_1.out (by repeat (first | (with_reducible first | exact HB.out | apply zc | apply za | apply zb | refine zd ?_ GE379.out | refine zd ?_ GE380.out) | exact HB.out))) | (with_reducible refine Kd.zI ?_ _) | (with_reducible refine Kd.zH ?_ _) | (with_reducible refine Kd.zP ?_)))
  (case side2 => exact HC0_1.out)
  rintro e w13 ⟨v385, rfl, ho0, hb⟩
  refine ⟨_, rfl, ?_⟩
  have n0_ := Aside0.mk (Kd.qB ho0 (zk (by repeat (first | (with_reducible first | exact HB.out | apply zc | apply za | apply zb | refine zd ?_ GE379.out | refine zd ?_ GE380.out) | exact HB.out))))
  have n1_ := Aside0.mk (zj (g := gb379) (o := .cells #[.int .i64 a0_0, .slice A0_1 l0_1.length c0_1] 26 (0, 0)) (by (with_reducible repeat (first | refine ze ?_ _ | refine zg ?_ | refine zf ?_ _)); exact BK379.out) hb)
  have n2_ := Aside0.mk (zj (g := gb380) (o := .cells #[.int .i64 0, .slice none 0 0] 26 (0, 0)) (by (with_reducible repeat (first | refine ze ?_ _ | refine zg ?_ | refine zf ?_ _)); exact BK380.out) hb)
  have n3_ := Aside0.mk (zl (by repeat (first | (with_reducible first | exact HB.out | apply zc | apply za | apply zb | refine zd ?_ GE379.out | refine zd ?_ GE380.out) | exact HB.out)) hb)
  clear BK379
  clear BK380
  clear HB
  have HO386 := n0_
  have BK379 := n1_
  have BK380 := n2_
  have HB := n3_
  clear n0_ n1_ n2_ n3_
  (try clear hb)
  (try clear hb2)
  (try clear hk)
  (try clear hi)
  (try clear ho0)
  obtain ⟨Ao15, co15, eo15⟩ := Kd.qo HO386.out
  (first | subst eo15 | (injection eo15 with f1_ f2_ f3_; have f4_ := f1_.symm; have f5_ := f3_.symm; clear f1_ f2_ f3_; subst f4_; subst f5_))
  refine hK.out _ _ ⟨(zh BK379.out 0).trans rfl, (zh BK379.out 1).trans rfl⟩ (fun hHeld => ?_)
  clear hK K
  refine jh (a' := ?_) ?_ ?_
  rotate_left
  ·show Act.put _ (some 16) _ = _
   simp only [Act.put, List.setIfInBounds_toArray, List.set_cons_zero, List.set_cons_succ, zm, zn]
   rfl
  refine jJ (i := 7) (N := none) #[true, true, true, true, true, true, true, true] rfl rfl (qM HT_.out (by kernel_rfl)) (by decide) (fun K hK => ?_)
  have hs14 : w13.cell? ⟨gb380, 0, none⟩ = some (.int .i64 0) := (zh BK380.out 0).trans rfl
  have hfs14 := zi BK380.out 0
  have hns14_0 := NB379_380.out
  have hms14_0 := NB380_379.out
  have hs16 : w13.cell? ⟨gb380, 1, none⟩ = some (.slice none 0 0) := (zh BK380.out 1).trans rfl
  have hfs16 := zi BK380.out 1
  have hns16_0 := NB379_380.out
  have hms16_0 := NB380_379.out
  refine JI (w1 := ?_) (by rfl) rfl ?_ ?_
  rotate_left
  ·go_simp
   rfl
  refine hK.out _ _ ⟨((cell_far (p := ⟨gb380, _, none⟩) NB379_380.out _).trans (((cell_far (p := ⟨gb380, _, none⟩) NB379_380.out _).trans (hHeld.1)))), ((cell_far (p := ⟨gb380, _, none⟩) NB379_380.out _).trans (((cell_far (p := ⟨gb380, _, none⟩) NB379_380.out _).trans (hHeld.2))))⟩ (fun hHeld => ?_)
  clear hK K
  refine j4 (jm HT_.out (by kernel_rfl)) ?_
  try go_wp2
  refine bodyPost_ret (results_cell_row rfl _ _ gb380 26 #[.int .i64 t383, .slice Ao15 t384.length co15] (0, 0) _ rfl (by (with_reducible repeat (first | refine ze ?_ _ | refine zg ?_ | refine zf ?_ _)); refine zV (cs := #[.int .i64 t383, .slice none 0 0]) ?_ 1 _ rfl; (with_reducible repeat (first | refine ze ?_ _ | refine zg ?_ | refine zf ?_ _)); refine zV (cs := #[.int .i64 0, .slice none 0 0]) ?_ 0 _ rfl; (with_reducible repeat (first | refine ze ?_ _ | refine zg ?_ | refine zf ?_ _)); exact BK380.out) Try.underlying26 rfl (by kernel_rfl)) rfl ?_
  exact ⟨_, by first | rfl | (simp [zt, zu] <;> rfl) | (simp [*, zt, zu] <;> rfl), by (with_reducible repeat (first | apply Kd.zw | apply Kd.zx | apply Kd.zz)); exact Kd.qn (Kd.qx (p := ⟨gb380, 1, none⟩) (Kd.qx (p := ⟨gb380, 0, none⟩) (Kd.qG HO386.out BK380.out (by decide)) (fun _ hk => hk.2) (.int .i64 t383)) (fun _ hk => hk.2) (.slice Ao15 t384.length co15)) (fun _ hk => trivial), by repeat (first | (with_reducible first | exact HB.out | apply zc | apply za | apply zb | refine zd ?_ GE379.out | refine zd ?_ GE380.out) | exact HB.out)⟩
 ·replace c4 := Bool.eq_false_iff.mpr c4
  subst c4
  have H1 : (some (0, ([] : List Int))) = some (r1, r2) := by rw [if_neg (show ¬ (false = true) by decide)] at H; exact H
  clear H
  have H := H1
  clear H1
  simp only [Option.some.injEq, Prod.mk.injEq] at H
  obtain ⟨rfl, rfl⟩ := H
  go_enter Try.func19, Try.ntmps19
  go_wp2_with (first | ((with_reducible refine zD (N := 2) rfl ?_); refine zA ?hg (N := 2) ?hd (cs := #[.int .i64 a0_0, .slice A0_1 l0_1.length c0_1]) (t := 26) ?hr ?_; (case hd => rfl); (case hg => rfl); (case hr => first | (go_simp; done) | (go_simp; rfl)); intro gb379 hg w17 hbox hb; have n0_ := Aside0.mk (zl (by repeat (first | (with_reducible first | exact HB.out | apply zc | apply za | apply zb) | exact HB.out)) hb); have n1_ := Aside0.mk (hbox); have n2_ := Aside0.mk ((by rw [hg]; exact (zk (by repeat (first | (with_reducible first | exact HB.out | apply zc | apply za | apply zb) | exact HB.out))) : w.heap.size ≤ gb379)); have n3_ := Aside0.mk ((by rw [hg]; exact (zk (by repeat (first | (with_reducible first | exact HB.out | apply zc | apply za | apply zb) | exact HB.out))) : w.heap.size ≤ gb379)); clear HB; have HB := n0_; have BK379 := n1_; have GW379 := n2_; have GE379 := n3_; clear n0_ n1_ n2_ n3_; clear hb hbox hg) | ((with_reducible refine zD (N := 4) rfl ?_); refine zA ?hg (N := 4) ?hd (cs := #[.int .i64 0, .slice none 0 0]) (t := 26) ?hr ?_; (case hd => rfl); (case hg => rfl); (case hr => first | (go_simp; done) | (go_simp; rfl)); intro gb380 hg w18 hbox hb; have n0_ := Aside0.mk (zj (g := gb379) (o := .cells #[.int .i64 a0_0, .slice A0_1 l0_1.length c0_1] 26 (0, 0)) (by (with_reducible repeat (first | refine ze ?_ _ | refine zg ?_ | refine zf ?_ _)); exact BK379.out) hb); have n1_ := Aside0.mk (zl (by repeat (first | (with_reducible first | exact HB.out | apply zc | apply za | apply zb | refine zd ?_ GE379.out) | exact HB.out)) hb); have n2_ := Aside0.mk (hbox); have n3_ := Aside0.mk ((by rw [hg]; exact (zk (by repeat (first | (with_reducible first | exact HB.out | apply zc | apply za | apply zb | refine zd ?_ GE379.out) | exact HB.out))) : w.heap.size ≤ gb380)); have n4_ := Aside0.mk ((by rw [hg]; exact (zk (by repeat (first | (with_reducible first | exact HB.out | apply zc | apply za | apply zb | refine zd ?_ GE379.out) | exact HB.out))) : w.heap.size ≤ gb380)); have n5_ := Aside0.mk ((by rw [hg]; exact Nat.ne_of_lt (zM (g := gb379) (o := .cells #[.int .i64 a0_0, .slice A0_1 l0_1.length c0_1] 26 (0, 0)) (by (with_reducible repeat (first | refine ze ?_ _ | refine zg ?_ | refine zf ?_ _)); exact BK379.out)) : gb379 ≠ gb380)); have n6_ := Aside0.mk ((by rw [hg]; exact Nat.ne_of_gt (zM (g := gb379) (o := .cells #[.int .i64 a0_0, .slice A0_1 l0_1.length c0_1] 26 (0, 0)) (by (with_reducible repeat (first | refine ze ?_ _ | refine zg ?_ | refine zf ?_ _)); exact BK379.out)) : gb380 ≠ gb379)); clear BK379; clear HB; have BK379 := n0_; have HB := n1_; have BK380 := n2_; have GW380 := n3_; have GE380 := n4_; have NB379_380 := n5_; have NB380_379 := n6_; clear n0_ n1_ n2_ n3_ n4_ n5_ n6_; clear hb hbox hg; have hnb19 := NB379_380.out; have hnc19 := NB380_379.out; have hcz20_0 : w18.cell? ⟨gb379, 0, none⟩ = some (.int .i64 a0_0) := (zh BK379.out 0).trans rfl; have hcz20_1 : w18.cell? ⟨gb379, 1, none⟩ = some (.slice A0_1 l0_1.length c0_1) := (zh BK379.out 1).trans rfl; have hfz20_0 := zi BK379.out 0; have hfz20_1 := zi BK379.out 1) | ((with_reducible refine zo (f := 38) rfl ?_); refine zL (some 7) rfl rfl Try.func38 (by kernel_rfl) rfl #[.agg #[.int .i64 a0_0, .slice A0_1 l0_1.length c0_1], .int .i64 a1] rfl (by (try simp only [List.map_toArray, List.map_cons, List.map_nil]); first | done | rfl | (simp only [List.length_drop, List.length_take]; rfl)) ?_; (with_reducible refine (qD.calls k a0_0 _ _ l0_1 a1 false _ ?side1 ?side2 A3.out).mono ?_); (case side1 => repeat (first | exact (Kd.zG HR0_1.out HB.out) | (with_reducible refine Kd.zI ?_ _) | (with_reducible refine Kd.zH ?_ _) | (with_reducible refine Kd.zP ?_))); (case side2 => exact HC0_1.out); rintro e w21 ⟨rfl, hb⟩; refine ⟨_, rfl, ?_⟩; have n0_ := Aside0.mk (zj (g := gb379) (o := .cells #[.int .i64 a0_0, .slice A0_1 l0_1.length c0_1] 26 (0, 0)) (by (with_reducible repeat (first | refine ze ?_ _ | refine zg ?_ | refine zf ?_ _)); exact BK379.out) hb); have n1_ := Aside0.mk (zj (g := gb380) (o := .cells #[.int .i64 0, .slice none 0 0] 26 (0, 0)) (by (with_reducible repeat (first | refine ze ?_ _ | refine zg ?_ | refine zf ?_ _)); exact BK380.out) hb); have n2_ := Aside0.mk (zl (by repeat (first | (with_reducible first | exact HB.out | apply zc | apply za | apply zb | refine zd ?_ GE379.out | refine zd ?_ GE380.out) | exact HB.out)) hb); clear BK379; clear BK380; clear HB; have BK379 := n0_; have BK380 := n1_; have HB := n2_; clear n0_ n1_ n2_; (try clear hb); (try clear hb2); (try clear hk); (try clear hi); have hcz22_0 : w21.cell? ⟨gb380, 0, none⟩ = some (.int .i64 0) := (zh BK380.out 0).trans rfl; have hcz22_1 : w21.cell? ⟨gb380, 1, none⟩ = some (.slice none 0 0) := (zh BK380.out 1).trans rfl; have hfz22_0 := zi BK380.out 0; have hfz22_1 := zi BK380.out 1))
  refine bodyPost_ret (results_cell_row rfl _ _ gb380 26 #[.int .i64 0, .slice none 0 0] (0, 0) _ rfl (by (with_reducible repeat (first | refine ze ?_ _ | refine zg ?_ | refine zf ?_ _)); refine zV (cs := #[.int .i64 0, .slice none 0 0]) ?_ 1 _ rfl; (with_reducible repeat (first | refine ze ?_ _ | refine zg ?_ | refine zf ?_ _)); refine zV (cs := #[.int .i64 0, .slice none 0 0]) ?_ 0 _ rfl; (with_reducible repeat (first | refine ze ?_ _ | refine zg ?_ | refine zf ?_ _)); exact BK380.out) Try.underlying26 rfl (by kernel_rfl)) rfl ?_
  exact ⟨_, by first | rfl | (simp [zt, zu] <;> rfl) | (simp [*, zt, zu] <;> rfl), by first | exact Kd.yE _ _ _ _ _ | exact Kd.Ze _ _ _ _ _ | exact Kd.ZF _ _ _ _ _ | exact Kd.Zw _ _ _ _ _ | exact Kd.Zt _ _ _ _ _, by repeat (first | (with_reducible first | exact HB.out | apply zc | apply za | apply zb | refine zd ?_ GE379.out | refine zd ?_ GE380.out) | exact HB.out)⟩

end Go.Proofs.Ytkmcefhchhahhaa.F
end
section
namespace Go.Proofs.Ytkmcefhchhahhaa.Mt
def sdiff (a b : Nat) : Nat := a ^^^ (a &&& b)
theorem qg (a b i : Nat) : (sdiff a b).testBit i = (a.testBit i && !b.testBit i) := by
  simp [sdiff, Nat.testBit_xor, Nat.testBit_and]; cases a.testBit i <;> cases b.testBit i <;> rfl
def elems (s : Nat) : List Nat := (List.range 8).filter s.testBit
theorem qp {s e : Nat} : e ∈ elems s ↔ e < 8 ∧ s.testBit e = true := by simp [elems]
end Go.Proofs.Ytkmcefhchhahhaa.Mt
end
section
namespace Go.Proofs.Ytkmcefhchhahhaa.Bits
open Go.Proofs.Ytkmcefhchhahhaa.Mt (sdiff qg)
open Go.RowKit Go.Proofs.YtkmcefhchhahhaaW.PrintWords Go.Proofs.YtkmcefhchhahhaaW.PrintLast Go.Proofs.YtkmcefhchhahhaaW.PrintMore

theorem jw {n : Int} (h0 : -9223372036854775808 ≤ n) (h1 : n < 9223372036854775808) : wrap64 n = n := by unfold wrap64; omega
theorem Zu {n : Int} (h0 : -9223372036854775808 ≤ n) (h1 : n < 9223372036854775808) : IntKind.i64.wrap n = n := by rw [IntKind.wrap_i64]; omega
theorem vk {n : Int} (h0 : 0 ≤ n) (h1 : n < 18446744073709551616) : IntKind.u64.wrap n = n := by
  simp [IntKind.wrap, IntKind.bits, IntKind.signed]; omega
theorem vR (a : Nat) (ha : a < 2 ^ 63) : (BitVec.ofInt 64 (a : Int)).toNat = a := by
  simp; omega
theorem vx (a b : Nat) (ha : a < 2 ^ 63) (hb : b < 2 ^ 63) : Go.bits .and .i64 (a : Int) (b : Int) = ((a &&& b : Nat) : Int) := by
  have hab : a &&& b < 2 ^ 63 := Nat.and_lt_two_pow _ hb
  show IntKind.i64.wrap (((BitVec.ofInt 64 (a : Int) &&& BitVec.ofInt 64 (b : Int)).toNat : Nat) : Int) = _
  rw [BitVec.toNat_and, vR a ha, vR b hb]
  exact Zu (by omega) (by omega)
theorem Zj (a b : Nat) (ha : a < 2 ^ 63) (hb : b < 2 ^ 63) : Go.bits .or .i64 (a : Int) (b : Int) = ((a ||| b : Nat) : Int) := by
  have hab : a ||| b < 2 ^ 63 := Nat.or_lt_two_pow ha hb
  show IntKind.i64.wrap (((BitVec.ofInt 64 (a : Int) ||| BitVec.ofInt 64 (b : Int)).toNat : Nat) : Int) = _
  rw [BitVec.toNat_or, vR a ha, vR b hb]
  exact Zu (by omega) (by omega)
theorem yL {a b n : Nat} (ha : a < 2 ^ n) : sdiff a b < 2 ^ n := Nat.xor_lt_two_pow ha (Nat.lt_of_le_of_lt Nat.and_le_left ha)
theorem vI (a b : Nat) (ha : a < 2 ^ 63) (hb : b < 2 ^ 63) : Go.bits .andNot .i64 (a : Int) (b : Int) = ((sdiff a b : Nat) : Int) := by
  have hab : sdiff a b < 2 ^ 63 := yL ha
  show IntKind.i64.wrap (((BitVec.ofInt 64 (a : Int) &&& ~~~ BitVec.ofInt 64 (b : Int)).toNat : Nat) : Int) = _
  have : (BitVec.ofInt 64 (a : Int) &&& ~~~ BitVec.ofInt 64 (b : Int)).toNat = sdiff a b := by
    apply Nat.eq_of_testBit_eq
    intro i
    rw [qg]
    rw [BitVec.toNat_and, Nat.testBit_and, vR a ha]
    by_cases hi : i < 64
    · rw [BitVec.testBit_toNat, BitVec.getLsbD_not, ← BitVec.testBit_toNat, vR b hb]; simp [hi]
    · have : a.testBit i = false := Nat.testBit_lt_two_pow (Nat.lt_of_lt_of_le ha (Nat.pow_le_pow_right (by decide) (by omega)))
      simp [this]
  rw [this]
  exact Zu (by omega) (by omega)
theorem vF (e : Nat) (he : e < 63) : shl .i64 1 (e : Int) = ((2 ^ e : Nat) : Int) := by
  have h : 2 ^ e < 2 ^ 63 := Nat.pow_lt_pow_right (by decide) he
  unfold shl
  rw [Nat.min_eq_left (by simp [IntKind.bits]; omega), Int.one_mul, Int.toNat_natCast]
  rw [show (2 : Int) ^ e = ((2 ^ e : Nat) : Int) by simp]
  generalize 2 ^ e = x at h ⊢
  exact Zu (by omega) (by omega)
theorem Y7 (a e : Nat) (he : e ≤ 64) : shr .i64 (a : Int) (e : Int) = ((a >>> e : Nat) : Int) := by
  unfold shr
  rw [Nat.min_eq_left (by simp [IntKind.bits]; omega), Int.toNat_natCast, Nat.shiftRight_eq_div_pow]
  simp
theorem Jj (a e : Nat) (ha : a < 2 ^ 63) (he : e ≤ 64) : (Go.bits .and .i64 (shr .i64 (a : Int) (e : Int)) 1 == 1) = a.testBit e := by
  have h1 : a >>> e < 2 ^ 63 := Nat.lt_of_le_of_lt (by rw [Nat.shiftRight_eq_div_pow]; exact Nat.div_le_self _ _) ha
  rw [Y7 a e he, show (1 : Int) = ((1 : Nat) : Int) from rfl, vx _ _ h1 (by decide)]
  simp only [Nat.testBit, Nat.and_comm 1]
  rcases Nat.mod_two_eq_zero_or_one (a >>> e) with h | h <;> simp [Nat.and_one_is_mod, h] <;> rfl

end Go.Proofs.Ytkmcefhchhahhaa.Bits
end
section
namespace Go.Proofs.Ytkmcefhchhahhaa.L
open Go.RowKit Go.Proofs.YtkmcefhchhahhaaW.PrintWords Go.Proofs.YtkmcefhchhahhaaW.PrintLast Go.Proofs.YtkmcefhchhahhaaW.PrintMore
open Go.Proofs.Ytkmcefhchhahhaa.Bits

theorem Ev.succ {α : Type} {g : Nat → Option α} {r : α} (h : Ev (fun k => g (k + 1)) r) : Ev g r := Ev.step (fun _ => rfl) h
theorem Ev.some {α : Type} {r s : α} (h : r = s) : Ev (fun _ => Option.some r) s := h ▸ Ev.now r
theorem qy {i : Nat} (h : i < 9223372036854775807) : wrap64 ((i : Int) + 1) = ((i + 1 : Nat) : Int) := jw (by omega) (by omega)

/-- A loop that asks of all places, and says no at the first that fails. -/
theorem Jw (L : Nat → Int → Option Bool) (n : Nat) (p : Nat → Bool) (hend : ∀ k, L (k + 1) (n : Int) = some true)
    (hstep : ∀ i, i < n → ∀ k, L (k + 1) (i : Int) = if p i = true then L k ((i + 1 : Nat) : Int) else some false) :
    ∀ d i, i + d = n → Ev (fun k => L k (i : Int)) ((List.range' i d).all p)
  | 0, i, hd => by
    obtain rfl : i = n := by omega
    refine Ev.succ ?_
    simp only [hend]; exact Ev.now _
  | d + 1, i, hd => by
    refine Ev.succ ?_
    rw [List.range'_succ, List.all_cons]
    simp only [hstep i (by omega)]
    cases hp : p i
    · simp only [Bool.false_eq_true, if_false, Bool.false_and]; exact Ev.now _
    · simp only [if_true, Bool.true_and]; exact Jw L n p hend hstep d (i + 1) (by omega)
theorem ZG (L : Nat → Int → Option Bool) (n : Nat) (p : Nat → Bool) (hend : ∀ k, L (k + 1) (n : Int) = some true)
    (hstep : ∀ i, i < n → ∀ k, L (k + 1) (i : Int) = if p i = true then L k ((i + 1 : Nat) : Int) else some false) :
    Ev (fun k => L k 0) ((List.range n).all p) := by
  rw [List.range_eq_range']; exact Jw L n p hend hstep n 0 (by omega)
/-- A loop that gathers: at each place the state takes a step; an invariant goes along. -/
theorem QK {σ ρ : Type} (L : Nat → σ → Int → Option ρ) (n : Nat) (step : σ → Nat → σ) (inv : Nat → σ → Prop) (fin : σ → ρ)
    (hend : ∀ s, inv n s → Ev (fun k => L (k + 1) s (n : Int)) (fin s))
    (hstep : ∀ i s, i < n → inv i s → inv (i + 1) (step s i) ∧ ∀ r, Ev (fun k => L k (step s i) ((i + 1 : Nat) : Int)) r → Ev (fun k => L (k + 1) s (i : Int)) r) :
    ∀ d i s, i + d = n → inv i s → Ev (fun k => L k s (i : Int)) (fin ((List.range' i d).foldl step s))
  | 0, i, s, hd, hi => by
    obtain rfl : i = n := by omega
    exact Ev.succ (hend s hi)
  | d + 1, i, s, hd, hi => by
    refine Ev.succ ?_
    obtain ⟨h1, h2⟩ := hstep i s (by omega) hi
    exact h2 _ (QK L n step inv fin hend hstep d (i + 1) (step s i) (by omega) h1)
theorem Zd {σ ρ : Type} (L : Nat → σ → Int → Option ρ) (n : Nat) (step : σ → Nat → σ) (inv : Nat → σ → Prop) (fin : σ → ρ)
    (hend : ∀ s, inv n s → Ev (fun k => L (k + 1) s (n : Int)) (fin s))
    (hstep : ∀ i s, i < n → inv i s → inv (i + 1) (step s i) ∧ ∀ r, Ev (fun k => L k (step s i) ((i + 1 : Nat) : Int)) r → Ev (fun k => L (k + 1) s (i : Int)) r) (s : σ) (h : inv 0 s) :
    Ev (fun k => L k s 0) (fin ((List.range n).foldl step s)) := by
  rw [List.range_eq_range']; exact QK L n step inv fin hend hstep n 0 s (by omega) h

/-- A loop that gathers, and what stands behind it. -/
theorem yx {σ ρ : Type} (L : Nat → σ → Int → Option ρ) (n : Nat) (step : σ → Nat → σ) (inv : Nat → σ → Prop)
    (hstep : ∀ i s, i < n → inv i s → inv (i + 1) (step s i) ∧ ∀ r, Ev (fun k => L k (step s i) ((i + 1 : Nat) : Int)) r → Ev (fun k => L (k + 1) s (i : Int)) r) (s : σ) (h : inv 0 s) :
    inv n ((List.range n).foldl step s) ∧ ∀ r, Ev (fun k => L k ((List.range n).foldl step s) (n : Int)) r → Ev (fun k => L k s 0) r := by
  have key : ∀ d i s, i + d = n → inv i s → inv n ((List.range' i d).foldl step s) ∧ ∀ r, Ev (fun k => L k ((List.range' i d).foldl step s) (n : Int)) r → Ev (fun k => L k s (i : Int)) r := by
    intro d
    induction d with
    | zero => intro i s hd hi; obtain rfl : i = n := by omega
              exact ⟨hi, fun r h => h⟩
    | succ d ih =>
      intro i s hd hi
      obtain ⟨h1, h2⟩ := hstep i s (by omega) hi
      obtain ⟨h3, h4⟩ := ih (i + 1) (step s i) (by omega) h1
      rw [List.range'_succ, List.foldl_cons]
      exact ⟨h3, fun r h => Ev.succ (h2 r (h4 r h))⟩
  rw [List.range_eq_range']
  exact key n 0 s (by omega) h
/-- A loop from its end back: what a place makes of the answer of what follows. -/
theorem jt {ρ : Type} (L : Nat → Int → Option ρ) (n : Nat) (f : Nat → ρ → ρ) (last : ρ) (hend : Ev (fun k => L (k + 1) (n : Int)) last)
    (hstep : ∀ i, i < n → ∀ r, Ev (fun k => L k ((i + 1 : Nat) : Int)) r → Ev (fun k => L (k + 1) (i : Int)) (f i r)) : Ev (fun k => L k 0) ((List.range n).foldr f last) := by
  have key : ∀ d i, i + d = n → Ev (fun k => L k (i : Int)) ((List.range' i d).foldr f last) := by
    intro d
    induction d with
    | zero => intro i hd; obtain rfl : i = n := by omega
              exact Ev.succ hend
    | succ d ih =>
      intro i hd
      rw [List.range'_succ, List.foldr_cons]
      exact Ev.succ (hstep i (by omega) _ (ih (i + 1) (by omega)))
  rw [List.range_eq_range']
  exact key n 0 (by omega)
theorem ZI {α : Type} (p : α → Bool) (r : Bool) : ∀ l : List α, l.foldr (fun i r => p i && r) r = (l.all p && r)
  | [] => by simp
  | a :: l => by rw [List.foldr_cons, List.all_cons, ZI p r l, Bool.and_assoc]
theorem ZH {α : Type} (p : α → Bool) (r : Bool) : ∀ l : List α, l.foldr (fun i r => p i || r) r = (l.any p || r)
  | [] => by simp
  | a :: l => by rw [List.foldr_cons, List.any_cons, ZH p r l, Bool.or_assoc]
theorem vo (l : List Int) (j : Nat) : rd l (j : Int) = l.getD j 0 := by simp [rd]
end Go.Proofs.Ytkmcefhchhahhaa.L
end
section
namespace Go.Proofs.Ytkmcefhchhahhaa.L
open Go.RowKit Go.Proofs.Ytkmcefhchhahhaa.F Go.Proofs.YtkmcefhchhahhaaW.PrintWords Go.Proofs.YtkmcefhchhahhaaW.PrintLast Go.Proofs.YtkmcefhchhahhaaW.PrintMore
open Go.Proofs.Ytkmcefhchhahhaa.Bits
open Go.Proofs.Ytkmcefhchhahhaa.Mt (sdiff qg elems qp)

def ints (l : List Nat) : List Int := l.map fun x : Nat => (x : Int)
theorem Zx (l : List Nat) (j : Nat) (h : j < l.length) : rd (ints l) (j : Int) = ((l[j]'h : Nat) : Int) := by
  simp [rd, ints, List.getElem?_eq_getElem h]
theorem zR (l : List Nat) : (ints l).length = l.length := by simp [ints]
theorem jl (s : Nat) : (elems s).length ≤ 8 := by
  have := List.length_filter_le s.testBit (List.range 8); simpa [elems] using this
/-- A number that is a set of eight elements. -/
def isAny (s : Int) : Bool := decide (0 ≤ s ∧ s < 256)

theorem Vv (s : Int) : jq.f s = some (isAny s) := by
  unfold jq.f isAny
  split <;> simp <;> omega

theorem YY (x a b : Int) : qC.f x a b = some (decide (a ≤ x ∧ x ≤ b)) := by
  unfold qC.f
  split <;> simp <;> omega

theorem Z1 (n s : Int) : qk.f n s = some (decide (0 ≤ n ∧ n ≤ 8 ∧ 0 ≤ s ∧ s < 2 ^ n.toNat)) := by
  unfold qk.f
  simp only [YY, Option.bind_some, decide_eq_true_eq]
  split
  · rename_i h
    obtain ⟨m, rfl⟩ := Int.eq_ofNat_of_zero_le h.1
    have hm : m ≤ 8 := by omega
    have hp : (2 : Nat) ^ m ≤ 2 ^ 8 := Nat.pow_le_pow_right (by decide) hm
    rw [vk (by omega) (by omega), vF m (by omega), if_pos (by omega)]
    rw [jw (by generalize 2 ^ m = x at hp ⊢; omega) (by generalize 2 ^ m = x at hp ⊢; omega)]
    simp only [Int.toNat_natCast, Option.some.injEq, decide_eq_decide]
    have : (2 : Int) ^ m = ((2 ^ m : Nat) : Int) := by simp
    rw [this]
    generalize 2 ^ m = x at hp ⊢
    omega
  · simp; omega

theorem Zm (s e : Int) : qS.f s e = some (isAny s && decide (0 ≤ e ∧ e < 8) && s.toNat.testBit e.toNat) := by
  unfold qS.f isAny
  simp only [Z1, YY, Option.bind_some, decide_eq_true_eq]
  by_cases hs : 0 ≤ s ∧ s < 256
  · rw [if_pos (by simp; omega)]
    by_cases he : 0 ≤ e ∧ e < 8
    · rw [if_pos (by omega)]
      obtain ⟨a, rfl⟩ := Int.eq_ofNat_of_zero_le hs.1
      obtain ⟨b, rfl⟩ := Int.eq_ofNat_of_zero_le he.1
      unfold qh.f
      rw [vk (by omega) (by omega), if_pos (by omega), Jj _ _ (by omega) (by omega)]
      simp; omega
    · rw [if_neg (by omega)]; simp [he]
  · rw [if_neg (by simp; omega)]; simp [hs]

theorem Qw (n : Int) : q6.f n = some (decide (0 ≤ n ∧ n ≤ 8)) := by
  unfold q6.f
  split <;> simp <;> omega
theorem zae (n s : Int) : jk.f n s = some (decide (0 ≤ n ∧ n ≤ 8 ∧ 0 ≤ s ∧ s < 2 ^ n.toNat)) := by
  unfold jk.f
  rw [Qw]
  simp only [Option.bind_some, decide_eq_true_eq]
  by_cases h : 0 ≤ n ∧ n ≤ 8
  · rw [if_pos h]
    by_cases hs : s ≥ 0
    · rw [if_pos hs, if_pos h.1]
      obtain ⟨m, rfl⟩ := Int.eq_ofNat_of_zero_le h.1
      rw [vF m (by omega)]
      simp only [Int.toNat_natCast, Option.some.injEq, decide_eq_decide]
      have : (2 : Int) ^ m = ((2 ^ m : Nat) : Int) := by simp
      rw [this]
      generalize 2 ^ m = x
      omega
    · rw [if_neg hs]; simp; omega
  · rw [if_neg h]; simp; omega
theorem Q5 (s e : Int) : jz.f s e = some (isAny s && decide (0 ≤ e ∧ e < 8) && s.toNat.testBit e.toNat) := by
  unfold jz.f
  rw [Vv]
  simp only [Option.bind_some]
  cases hs : isAny s
  · simp
  · rw [if_pos rfl]
    have hs' : 0 ≤ s ∧ s < 256 := by simpa [isAny] using hs
    by_cases h0 : e ≥ 0
    · rw [if_pos h0]
      by_cases h8 : e < 8
      · obtain ⟨a, rfl⟩ := Int.eq_ofNat_of_zero_le hs'.1
        obtain ⟨b, rfl⟩ := Int.eq_ofNat_of_zero_le h0
        rw [if_pos h8, if_pos h0, Jj _ _ (by omega) (by omega)]
        simp; omega
      · rw [if_neg h8]; simp; omega
    · rw [if_neg h0]; simp; omega

/-- The elements of a number: none where it is no set. -/
def qK (s : Int) : List Nat := if isAny s then elems s.toNat else []

theorem Vj {s : Int} {e : Nat} (h : e ∈ qK s) : e < 8 := by
  unfold qK at h; split at h
  · exact (qp.1 h).1
  · simp at h
theorem ye (s : Int) : (qK s).length ≤ 8 := by
  unfold qK; split
  · exact jl _
  · simp

theorem yz (s : Int) (L : Nat → List Int → Int → Option (List Int))
    (hL : ∀ k (acc : List Int) (i : Nat), L (k + 1) acc i = if (i : Int) < 8 then (if (isAny s && decide (0 ≤ (i : Int) ∧ (i : Int) < 8) && s.toNat.testBit (i : Int).toNat) = true then (if acc.length < 17592186044416 then L k (acc ++ [(i : Int)]) (wrap64 ((i : Int) + 1)) else none) else L k acc (wrap64 ((i : Int) + 1))) else some acc) :
    ∀ (d i : Nat) (acc : List Int), i + d = 8 → acc.length ≤ i → Ev (fun k => L k acc i) (acc ++ ints ((List.range' i d).filter fun e => isAny s && s.toNat.testBit e))
  | 0, i, acc, hd, _ => by
    obtain rfl : i = 8 := by omega
    refine Ev.succ ?_
    simp only [hL, show ¬ (((8 : Nat) : Int) < 8) by decide, if_false]
    simpa [ints] using Ev.now acc
  | d + 1, i, acc, hd, ha => by
    refine Ev.succ ?_
    have h8 : (i : Int) < 8 := by omega
    have hw : wrap64 ((i : Int) + 1) = ((i + 1 : Nat) : Int) := jw (by omega) (by omega)
    simp only [hL, h8, hw, if_true, Int.toNat_natCast, Int.natCast_nonneg, decide_true, Bool.and_true, and_self]
    rw [List.range'_succ]
    cases hb : (isAny s && s.toNat.testBit i)
    · simp only [hb, List.filter_cons, Bool.false_eq_true, if_false]
      exact yz s L hL d (i + 1) acc (by omega) (by omega)
    · simp only [hb, List.filter_cons, if_true, show acc.length < 17592186044416 by omega]
      have := yz s L hL d (i + 1) (acc ++ [(i : Int)]) (by omega) (by simp; omega)
      simpa [ints] using this

theorem QY (s : Int) : (List.range' 0 8).filter (fun e => isAny s && s.toNat.testBit e) = qK s := by
  unfold qK elems
  rw [List.range_eq_range']
  cases isAny s <;> simp

theorem Je (s : Int) : Ev (fun k => qb.f k s) (ints (qK s)) := by
  have := yz s (fun k acc i => qb.l0 k s acc i) (fun k acc i => by simp only [qb.l0, Zm, Option.bind_some]) 8 0 [] rfl (by simp)
  rw [QY] at this
  simpa [qb.f] using this
theorem vM (s : Int) : Ev (fun k => zT.f k s) (ints (qK s)) := by
  have := yz s (fun k acc i => zT.l0 k s acc i) (fun k acc i => by simp only [zT.l0, Q5, Option.bind_some]) 8 0 [] rfl (by simp)
  rw [QY] at this
  simpa [zT.f] using this

/-- The element test on any two numbers. -/
def V2 (s : Int) (e : Nat) : Bool := isAny s && decide (e < 8) && s.toNat.testBit e
theorem QH (s : Int) (e : Nat) : qS.f s (e : Int) = some (V2 s e) := by
  rw [Zm]; simp [V2, show ((e : Int) < 8) ↔ e < 8 by omega]
theorem drop_cons {α : Type} {l r : List α} {i : Nat} {a : α} (h : l.drop i = a :: r) : ∃ hi : i < l.length, l[i] = a ∧ l.drop (i + 1) = r := by
  have hi : i < l.length := by
    rcases Nat.lt_or_ge i l.length with h' | h'
    · exact h'
    · rw [List.drop_eq_nil_of_le h'] at h; cases h
  refine ⟨hi, ?_⟩
  rw [List.drop_eq_getElem_cons hi] at h
  exact ⟨(List.cons.inj h).1, (List.cons.inj h).2⟩

theorem Qz (s : Nat) : (elems s).Pairwise (· < ·) := List.Pairwise.filter _ List.pairwise_lt_range
theorem yD (s : Int) : (qK s).Pairwise (· < ·) := by
  unfold qK; split
  · exact Qz _
  · exact List.Pairwise.nil

theorem ZV (s n : Nat) (hn : n ≤ 8) (h : s < 2 ^ n) : elems s = (List.range n).filter s.testBit := by
  unfold elems
  obtain ⟨m, hm⟩ : ∃ m, 8 = n + m := ⟨8 - n, by omega⟩
  rw [hm, List.range_add, List.filter_append]
  have : List.filter s.testBit (List.map (fun x => n + x) (List.range m)) = [] := by
    rw [List.filter_eq_nil_iff]
    intro a ha
    obtain ⟨b, _, rfl⟩ := List.mem_map.1 ha
    rw [Nat.testBit_lt_two_pow (Nat.lt_of_lt_of_le h (Nat.pow_le_pow_right (by decide) (by omega)))]
    simp
  rw [this, List.append_nil]

theorem Jp (s n : Nat) (hs : s < 256) (h : ∀ e ∈ elems s, e < n) : s < 2 ^ n := by
  apply Nat.lt_pow_two_of_testBit
  intro i hi
  cases hb : s.testBit i
  · rfl
  · have : i < 8 := by
      rcases Nat.lt_or_ge i 8 with h' | h'
      · exact h'
      · rw [Nat.testBit_lt_two_pow (Nat.lt_of_lt_of_le hs (Nat.pow_le_pow_right (n := 2) (by decide) h'))] at hb; cases hb
    have := h i (qp.2 ⟨this, hb⟩)
    omega

theorem zaM (acc i : Nat) (h : acc < 2 ^ i) : acc ||| 2 ^ i = acc + 2 ^ i := by
  have := Nat.two_pow_add_eq_or_of_lt h 1
  rw [Nat.mul_one] at this
  rw [Nat.or_comm, ← this, Nat.add_comm]

end Go.Proofs.Ytkmcefhchhahhaa.L
end
