/- Several texts of this session in one: GvFromCircuits, Fx51, Fx52, GvIndependentSets, Fx40. Conditions: as each theorem says. -/
import Derived.Test.YteggmbhcnhbamaaZFromHyperplanes0
import Derived.Test.YteggmbhcnhbamaaZFromHyperplanes1
import Derived.Test.YteggmbhcnhbamaaZFromHyperplanes2
import Derived.Test.YteggmbhcnhbamaaZFromHyperplanes3
import Derived.Shelf.Abstract
set_option maxHeartbeats 8000000
set_option maxRecDepth 100000
section
namespace Go.Proofs.Yteggmbhcnhbamaa.F
open Go.RowKit Go.Proofs.YteggmbhcnhbamaaW.PrintWords Go.Proofs.YteggmbhcnhbamaaW.PrintLast Go.Proofs.YteggmbhcnhbamaaW.PrintMore
attribute [local go_sem] qJ qM q2 q4 qy qx qL qK   -- for this text's walks alone
set_option linter.unusedVariables false
set_option linter.unusedSimpArgs false

def zX.f (k : Nat) (a0 : Int) (l1 : List Int) : Option (Int × List Int × Bool) := (zE.f k a0 l1).bind fun t334 => (if t334 = true then ((zM.f k a0 l1).bind fun t335 => ((zS.f k a0 t335).bind fun bt338 => (if bt338.2.2 = true then ((qc.f k bt338.1 bt338.2.1).bind fun t344 => ((zq.f k t344 l1).bind fun t347 => (if t347 = true then (some (bt338.1, bt338.2.1, true)) else (some (0, ([] : List Int), false))))) else (some (0, ([] : List Int), false))))) else (some (0, ([] : List Int), false)))
def zX.T4 : Bool × List (List Nat × List Nat) := (true, [([], []), ([0], [0]), ([1], [1]), ([2], [2]), ([3, 2, 2], [2, 3]), ([2], [2]), ([4, 5, 4, 2], [2, 4, 5]), ([6, 2], [2, 6]), ([2, 7], [2, 7])])
def zX.B4 : List Nat := [0, 1, 3, 7, 15, 7, 63, 127, 255]
theorem zX.zbe : vI .any (opsOf Try.f72 4) = zX.T4 := by kernel_rfl
theorem zX.zaz : j8 zX.T4.2 zX.B4 = true := by kernel_rfl
theorem zX.calls (k : Nat) (a0 : Int) (A1 : Option Addr) (c1 : Nat) (l1 : List Int) (r1 : Int) (r2 : List Int) (r3 : Bool) (w : World) (hr1 : Kd.C (Kd.int .i64) w A1 l1.length l1) (hc1 : l1.length ≤ c1) (h : zX.f k a0 l1 = some (r1, r2, r3)) :
    Calls Try.prog 72 #[.int .i64 a0, .slice A1 l1.length c1] w fun e w' => ∃ v1_ : Value, e = .returned (.tuple #[.agg #[.int .i64 r1, v1_], .bool r3]) ∧ Kd.R (Kd.int .i64) 3 w' w.heap.size (fun _ => True) v1_ r2 ∧ Below w.heap.size w w' := by
  have hu27 := Try.underlying27
  have HR1 := Aside0.mk hr1
  have HC1 := Aside0.mk hc1
  clear hr1 hc1
  have HB := Aside0.mk (Below.refl w.heap.size w)
  have H : ((zE.f k a0 l1).bind fun t334 => (if t334 = true then ((zM.f k a0 l1).bind fun t335 => ((zS.f k a0 t335).bind fun bt338 => (if bt338.2.2 = true then ((qc.f k bt338.1 bt338.2.1).bind fun t344 => ((zq.f k t344 l1).bind fun t347 => (if t347 = true then (some (bt338.1, bt338.2.1, true)) else (some (0, ([] : List Int), false))))) else (some (0, ([] : List Int), false))))) else (some (0, ([] : List Int), false)))) = some (r1, r2, r3) := h
  clear h
  replace H := Option.bind_eq_some_iff.mp H
  obtain ⟨t334, A30, H⟩ := H
  replace H : (if t334 = true then ((zM.f k a0 l1).bind fun t335 => ((zS.f k a0 t335).bind fun bt338 => (if bt338.2.2 = true then ((qc.f k bt338.1 bt338.2.1).bind fun t344 => ((zq.f k t344 l1).bind fun t347 => (if t347 = true then (some (bt338.1, bt338.2.1, true)) else (some (0, ([] : List Int), false))))) else (some (0, ([] : List Int), false))))) else (some (0, ([] : List Int), false))) = some (r1, r2, r3) := H
  have A3 := Aside0.mk A30
  clear A30
  by_cases c4 : t334 = true
  · subst c4
    have H1 : ((zM.f k a0 l1).bind fun t335 => ((zS.f k a0 t335).bind fun bt338 => (if bt338.2.2 = true then ((qc.f k bt338.1 bt338.2.1).bind fun t344 => ((zq.f k t344 l1).bind fun t347 => (if t347 = true then (some (bt338.1, bt338.2.1, true)) else (some (0, ([] : List Int), false))))) else (some (0, ([] : List Int), false))))) = some (r1, r2, r3) := by rw [if_pos rfl] at H; exact H
    clear H
    have H := H1
    clear H1
    replace H := Option.bind_eq_some_iff.mp H
    obtain ⟨t335, A50, H⟩ := H
    replace H : ((zS.f k a0 t335).bind fun bt338 => (if bt338.2.2 = true then ((qc.f k bt338.1 bt338.2.1).bind fun t344 => ((zq.f k t344 l1).bind fun t347 => (if t347 = true then (some (bt338.1, bt338.2.1, true)) else (some (0, ([] : List Int), false))))) else (some (0, ([] : List Int), false)))) = some (r1, r2, r3) := H
    have A5 := Aside0.mk A50
    clear A50
    replace H := Option.bind_eq_some_iff.mp H
    obtain ⟨⟨t338, t339, t342⟩, A60, H⟩ := H
    replace H : (if t342 = true then ((qc.f k t338 t339).bind fun t344 => ((zq.f k t344 l1).bind fun t347 => (if t347 = true then (some (t338, t339, true)) else (some (0, ([] : List Int), false))))) else (some (0, ([] : List Int), false))) = some (r1, r2, r3) := H
    have A6 := Aside0.mk A60
    clear A60
    by_cases c7 : t342 = true
    · subst c7
      have H1 : ((qc.f k t338 t339).bind fun t344 => ((zq.f k t344 l1).bind fun t347 => (if t347 = true then (some (t338, t339, true)) else (some (0, ([] : List Int), false))))) = some (r1, r2, r3) := by rw [if_pos rfl] at H; exact H
      clear H
      have H := H1
      clear H1
      replace H := Option.bind_eq_some_iff.mp H
      obtain ⟨t344, A80, H⟩ := H
      replace H : ((zq.f k t344 l1).bind fun t347 => (if t347 = true then (some (t338, t339, true)) else (some (0, ([] : List Int), false)))) = some (r1, r2, r3) := H
      have A8 := Aside0.mk A80
      clear A80
      replace H := Option.bind_eq_some_iff.mp H
      obtain ⟨t347, A90, H⟩ := H
      replace H : (if t347 = true then (some (t338, t339, true)) else (some (0, ([] : List Int), false))) = some (r1, r2, r3) := H
      have A9 := Aside0.mk A90
      clear A90
      by_cases c10 : t347 = true
      · subst c10
        have H1 : (some (t338, t339, true)) = some (r1, r2, r3) := by rw [if_pos rfl] at H; exact H
        clear H
        have H := H1
        clear H1
        simp only [Option.some.injEq, Prod.mk.injEq] at H
        obtain ⟨rfl, rfl, rfl⟩ := H
        go_enter Try.func72, Try.ntmps72
        go_wp2_with (first
          | ((with_reducible refine zi (N := 3) rfl ?_); refine zl ?hg (N := 3) ?hd (cs := #[.slice A1 l1.length c1]) (t := 22) ?hr ?_; (case hd => rfl); (case hg => rfl); (case hr => exact sqG); intro gl hg wl hbox hb; have HBl := Aside0.mk hb; have BKl := Aside0.mk hbox; have nr_ := Aside0.mk (Kd.zp HR1.out hb); clear HR1 HB; have HR1 := nr_; clear nr_; have HB := Aside0.mk (Below.refl wl.heap.size wl); have hcl : wl.cell? ⟨gl, 0, none⟩ = some (.slice A1 l1.length c1) := (zb BKl.out 0).trans rfl; clear hb hbox hg)
          | ((with_reducible refine zi (N := 4) rfl ?_); refine zl ?hg (N := 4) ?hd (cs := #[.int .i64 0, .slice none 0 0]) (t := 27) ?hr ?_; (case hd => rfl); (case hg => rfl); (case hr => exact sqG); intro gb333 hg w11 hbox hb; have n0_ := Aside0.mk (zc sqB hb); have n1_ := Aside0.mk (hbox); have n2_ := Aside0.mk ((sqS hg : wl.heap.size ≤ gb333)); have n3_ := Aside0.mk ((sqS hg : wl.heap.size ≤ gb333)); clear HB; have HB := n0_; have BK333 := n1_; have GW333 := n2_; have GE333 := n3_; clear n0_ n1_ n2_ n3_; clear hb hbox hg; (try clear hcl); have hcl : World.cell? _ ⟨gl, 0, none⟩ = some (.slice A1 l1.length c1) := (zb (ze BKl.out HB.out) 0).trans rfl)
          | ((with_reducible refine zd (f := 52) rfl ?_); refine zn (some 10) rfl rfl Try.func52 (by kernel_rfl) rfl #[.int .i64 a0, .slice A1 l1.length c1] rfl sqM ?_; (with_reducible refine (zE.calls k a0 _ _ l1 true _ ?side1 ?side2 A3.out).mono ?_); (case side1 => exact sqC (Kd.zp HR1.out HB.out)); (case side2 => exact HC1.out); rintro e w' ⟨rfl, ⟨nd, rfl⟩⟩; refine ⟨_, rfl, ?_⟩; (try (rw [qz w11]; generalize hq_ : World.drewN w11 _ = w11; have n0_ : Aside0 (w11.heap[gb333]? = some (.cells #[.int .i64 0, .slice none 0 0] 27 (0, 0))) := ⟨by rw [← hq_]; exact (sqK BK333.out)⟩; have n1_ : Aside0 (Below wl.heap.size wl w11) := ⟨by rw [← hq_]; exact sqB⟩; clear BK333 HB hq_; have BK333 := n0_; have HB := n1_; clear n0_ n1_; have hczqgb333_0 : w11.cell? ⟨gb333, 0, none⟩ = some (.int .i64 0) := (zb BK333.out 0).trans rfl; have hfzqgb333_0 := za BK333.out 0; have hczqgb333_1 : w11.cell? ⟨gb333, 1, none⟩ = some (.slice none 0 0) := (zb BK333.out 1).trans rfl; have hfzqgb333_1 := za BK333.out 1)); (try clear hcl); have hcl : World.cell? _ ⟨gl, 0, none⟩ = some (.slice A1 l1.length c1) := (zb (ze BKl.out HB.out) 0).trans rfl)
          | ((with_reducible refine zd (f := 53) rfl ?_); refine zn (some 18) rfl rfl Try.func53 (by kernel_rfl) rfl #[.int .i64 a0, .slice Ao13 t335.length co13] rfl sqM ?_; (with_reducible refine (zS.calls k a0 _ _ t335 t338 t339 true _ ?side1 ?side2 A6.out).mono ?_); (case side1 => exact sqC (Kd.zh HO337.out).2.2); (case side2 => exact (Kd.zh HO337.out).2.1); rintro e w14 ⟨v340, rfl, ho0, hb⟩; refine ⟨_, rfl, ?_⟩; have n0_ := Aside0.mk (Kd.zU (sqR HO337.out) (Kd.qt ho0) hb); have n1_ := Aside0.mk (Kd.zD (Kd.qu ho0 (Kd.jd (sqR HO337.out))) (zg sqB)); have n2_ := Aside0.mk (ze (g := gb333) (o := .cells #[.int .i64 0, .slice none 0 0] 27 (0, 0)) (sqK BK333.out) hb); have n3_ := Aside0.mk (zc sqB hb); clear HO337; clear BK333; clear HB; have HO337 := n0_; have HO341 := n1_; have BK333 := n2_; have HB := n3_; clear n0_ n1_ n2_ n3_; (try clear hb); (try clear hb2); (try clear hk); (try clear hi); (try clear ho0); (try clear hcl); have hcl : World.cell? _ ⟨gl, 0, none⟩ = some (.slice A1 l1.length c1) := (zb (ze BKl.out HB.out) 0).trans rfl)
          | ((with_reducible refine zi (N := 6) rfl ?_); refine zl ?hg (N := 6) ?hd (cs := #[.int .i64 0, .slice none 0 0]) (t := 27) ?hr ?_; (case hd => rfl); (case hg => rfl); (case hr => exact sqG); intro gb343 hg w15 hbox hb; have n0_ := Aside0.mk (Kd.zz (sqR HO337.out) hb); have n1_ := Aside0.mk (Kd.zz (sqR HO341.out) hb); have n2_ := Aside0.mk (ze (g := gb333) (o := .cells #[.int .i64 0, .slice none 0 0] 27 (0, 0)) (sqK BK333.out) hb); have n3_ := Aside0.mk (zc sqB hb); have n4_ := Aside0.mk (hbox); have n5_ := Aside0.mk ((sqS hg : wl.heap.size ≤ gb343)); have n6_ := Aside0.mk ((sqS hg : wl.heap.size ≤ gb343)); have n7_ := Aside0.mk ((by rw [hg]; exact Nat.ne_of_lt (zV (g := gb333) (o := .cells #[.int .i64 0, .slice none 0 0] 27 (0, 0)) (sqK BK333.out)) : gb333 ≠ gb343)); have n8_ := Aside0.mk ((by rw [hg]; exact Nat.ne_of_gt (zV (g := gb333) (o := .cells #[.int .i64 0, .slice none 0 0] 27 (0, 0)) (sqK BK333.out)) : gb343 ≠ gb333)); clear HO337; clear HO341; clear BK333; clear HB; have HO337 := n0_; have HO341 := n1_; have BK333 := n2_; have HB := n3_; have BK343 := n4_; have GW343 := n5_; have GE343 := n6_; have NB333_343 := n7_; have NB343_333 := n8_; clear n0_ n1_ n2_ n3_ n4_ n5_ n6_ n7_ n8_; clear hb hbox hg; have hnb16 := NB343_333.out; have hnc16 := NB333_343.out; have hcz17_0 : w15.cell? ⟨gb343, 0, none⟩ = some (.int .i64 0) := (zb BK343.out 0).trans rfl; have hcz17_1 : w15.cell? ⟨gb343, 1, none⟩ = some (.slice none 0 0) := (zb BK343.out 1).trans rfl; have hfz17_0 := za BK343.out 0; have hfz17_1 := za BK343.out 1; obtain ⟨Ao18, co18, eo18⟩ := Kd.zR HO341.out; subst eo18; (try clear hcl); have hcl : World.cell? _ ⟨gl, 0, none⟩ = some (.slice A1 l1.length c1) := (zb (ze BKl.out HB.out) 0).trans rfl))
        refine (vr (zM.q l1) _ _ (enters_of Try.func103 (by kernel_rfl) rfl) k a0 t335 _ (zM.pred l1 _ c1 gl _ (ze BKl.out sqB) (Kd.zp HR1.out sqB) HC1.out) A5.out).mono ?_
        rintro e w12 ⟨v336, rfl, ho0, hb⟩
        have n0_ := Aside0.mk (Kd.zD ho0 (zg sqB))
        have n1_ := Aside0.mk (ze (g := gb333) (o := .cells #[.int .i64 0, .slice none 0 0] 27 (0, 0)) (sqK BK333.out) hb)
        have n2_ := Aside0.mk (zc sqB hb)
        clear BK333
        clear HB
        have HO337 := n0_
        have BK333 := n1_
        have HB := n2_
        clear n0_ n1_ n2_
        (try clear hb)
        (try clear hb2)
        (try clear hk)
        (try clear hi)
        (try clear ho0)
        obtain ⟨Ao13, co13, eo13⟩ := Kd.zR HO337.out
        subst eo13
        (try clear hcl)
        have hcl : World.cell? _ ⟨gl, 0, none⟩ = some (.slice A1 l1.length c1) := (zb (ze BKl.out HB.out) 0).trans rfl
        go_wp2_with (first
          | ((with_reducible refine zi (N := 4) rfl ?_); refine zl ?hg (N := 4) ?hd (cs := #[.int .i64 0, .slice none 0 0]) (t := 27) ?hr ?_; (case hd => rfl); (case hg => rfl); (case hr => exact sqG); intro gb333 hg w11 hbox hb; have n0_ := Aside0.mk (zc sqB hb); have n1_ := Aside0.mk (hbox); have n2_ := Aside0.mk ((sqS hg : wl.heap.size ≤ gb333)); have n3_ := Aside0.mk ((sqS hg : wl.heap.size ≤ gb333)); clear HB; have HB := n0_; have BK333 := n1_; have GW333 := n2_; have GE333 := n3_; clear n0_ n1_ n2_ n3_; clear hb hbox hg; (try clear hcl); have hcl : World.cell? _ ⟨gl, 0, none⟩ = some (.slice A1 l1.length c1) := (zb (ze BKl.out HB.out) 0).trans rfl)
          | ((with_reducible refine zd (f := 52) rfl ?_); refine zn (some 10) rfl rfl Try.func52 (by kernel_rfl) rfl #[.int .i64 a0, .slice A1 l1.length c1] rfl sqM ?_; (with_reducible refine (zE.calls k a0 _ _ l1 true _ ?side1 ?side2 A3.out).mono ?_); (case side1 => exact sqC (Kd.zp HR1.out HB.out)); (case side2 => exact HC1.out); rintro e w' ⟨rfl, ⟨nd, rfl⟩⟩; refine ⟨_, rfl, ?_⟩; (try (rw [qz w11]; generalize hq_ : World.drewN w11 _ = w11; have n0_ : Aside0 (w11.heap[gb333]? = some (.cells #[.int .i64 0, .slice none 0 0] 27 (0, 0))) := ⟨by rw [← hq_]; exact (sqK BK333.out)⟩; have n1_ : Aside0 (Below wl.heap.size wl w11) := ⟨by rw [← hq_]; exact sqB⟩; clear BK333 HB hq_; have BK333 := n0_; have HB := n1_; clear n0_ n1_; have hczqgb333_0 : w11.cell? ⟨gb333, 0, none⟩ = some (.int .i64 0) := (zb BK333.out 0).trans rfl; have hfzqgb333_0 := za BK333.out 0; have hczqgb333_1 : w11.cell? ⟨gb333, 1, none⟩ = some (.slice none 0 0) := (zb BK333.out 1).trans rfl; have hfzqgb333_1 := za BK333.out 1)); (try clear hcl); have hcl : World.cell? _ ⟨gl, 0, none⟩ = some (.slice A1 l1.length c1) := (zb (ze BKl.out HB.out) 0).trans rfl)
          | ((with_reducible refine zd (f := 53) rfl ?_); refine zn (some 18) rfl rfl Try.func53 (by kernel_rfl) rfl #[.int .i64 a0, .slice Ao13 t335.length co13] rfl sqM ?_; (with_reducible refine (zS.calls k a0 _ _ t335 t338 t339 true _ ?side1 ?side2 A6.out).mono ?_); (case side1 => exact sqC (Kd.zh HO337.out).2.2); (case side2 => exact (Kd.zh HO337.out).2.1); rintro e w14 ⟨v340, rfl, ho0, hb⟩; refine ⟨_, rfl, ?_⟩; have n0_ := Aside0.mk (Kd.zU (sqR HO337.out) (Kd.qt ho0) hb); have n1_ := Aside0.mk (Kd.zD (Kd.qu ho0 (Kd.jd (sqR HO337.out))) (zg sqB)); have n2_ := Aside0.mk (ze (g := gb333) (o := .cells #[.int .i64 0, .slice none 0 0] 27 (0, 0)) (sqK BK333.out) hb); have n3_ := Aside0.mk (zc sqB hb); clear HO337; clear BK333; clear HB; have HO337 := n0_; have HO341 := n1_; have BK333 := n2_; have HB := n3_; clear n0_ n1_ n2_ n3_; (try clear hb); (try clear hb2); (try clear hk); (try clear hi); (try clear ho0); (try clear hcl); have hcl : World.cell? _ ⟨gl, 0, none⟩ = some (.slice A1 l1.length c1) := (zb (ze BKl.out HB.out) 0).trans rfl)
          | ((with_reducible refine zi (N := 6) rfl ?_); refine zl ?hg (N := 6) ?hd (cs := #[.int .i64 0, .slice none 0 0]) (t := 27) ?hr ?_; (case hd => rfl); (case hg => rfl); (case hr => exact sqG); intro gb343 hg w15 hbox hb; have n0_ := Aside0.mk (Kd.zz (sqR HO337.out) hb); have n1_ := Aside0.mk (Kd.zz (sqR HO341.out) hb); have n2_ := Aside0.mk (ze (g := gb333) (o := .cells #[.int .i64 0, .slice none 0 0] 27 (0, 0)) (sqK BK333.out) hb); have n3_ := Aside0.mk (zc sqB hb); have n4_ := Aside0.mk (hbox); have n5_ := Aside0.mk ((sqS hg : wl.heap.size ≤ gb343)); have n6_ := Aside0.mk ((sqS hg : wl.heap.size ≤ gb343)); have n7_ := Aside0.mk ((by rw [hg]; exact Nat.ne_of_lt (zV (g := gb333) (o := .cells #[.int .i64 0, .slice none 0 0] 27 (0, 0)) (sqK BK333.out)) : gb333 ≠ gb343)); have n8_ := Aside0.mk ((by rw [hg]; exact Nat.ne_of_gt (zV (g := gb333) (o := .cells #[.int .i64 0, .slice none 0 0] 27 (0, 0)) (sqK BK333.out)) : gb343 ≠ gb333)); clear HO337; clear HO341; clear BK333; clear HB; have HO337 := n0_; have HO341 := n1_; have BK333 := n2_; have HB := n3_; have BK343 := n4_; have GW343 := n5_; have GE343 := n6_; have NB333_343 := n7_; have NB343_333 := n8_; clear n0_ n1_ n2_ n3_ n4_ n5_ n6_ n7_ n8_; clear hb hbox hg; have hnb16 := NB343_333.out; have hnc16 := NB333_343.out; have hcz17_0 : w15.cell? ⟨gb343, 0, none⟩ = some (.int .i64 0) := (zb BK343.out 0).trans rfl; have hcz17_1 : w15.cell? ⟨gb343, 1, none⟩ = some (.slice none 0 0) := (zb BK343.out 1).trans rfl; have hfz17_0 := za BK343.out 0; have hfz17_1 := za BK343.out 1; obtain ⟨Ao18, co18, eo18⟩ := Kd.zR HO341.out; subst eo18; (try clear hcl); have hcl : World.cell? _ ⟨gl, 0, none⟩ = some (.slice A1 l1.length c1) := (zb (ze BKl.out HB.out) 0).trans rfl))
        have n0_ : Aside0 (Kd.R (Kd.int .i64) 3 ((w15.setCell ⟨gb343, 0, none⟩ (.int .i64 t338)).setCell ⟨gb343, 1, none⟩ (.slice Ao18 t339.length co18)) wl.heap.size (fun k_ => some k_ ≠ (.slice Ao18 t339.length co18 : Value).ownBlock) (.slice Ao13 t335.length co13) t335) := ⟨by refine sqR ?_; exact Kd.zu (Kd.zC (p := ⟨gb343, 1, none⟩) (Kd.zC (p := ⟨gb343, 0, none⟩) (Kd.zK HO337.out BK343.out (by decide)) (fun _ hk => hk.2) (.int .i64 t338)) (fun _ hk => hk.2) (.slice Ao18 t339.length co18)) (fun _ hk => hk.1.2)⟩
        have n1_ : Aside0 (Kd.R (Kd.int .i64) 3 ((w15.setCell ⟨gb343, 0, none⟩ (.int .i64 t338)).setCell ⟨gb343, 1, none⟩ (.slice Ao18 t339.length co18)) wl.heap.size (fun k_ => some k_ ≠ (.slice Ao13 t335.length co13 : Value).ownBlock) (.slice Ao18 t339.length co18) t339) := ⟨by refine sqR ?_; exact Kd.zu (Kd.zC (p := ⟨gb343, 1, none⟩) (Kd.zC (p := ⟨gb343, 0, none⟩) (Kd.zK HO341.out BK343.out (by decide)) (fun _ hk => hk.2) (.int .i64 t338)) (fun _ hk => hk.2) (.slice Ao18 t339.length co18)) (fun _ hk => hk.1.2)⟩
        have n2_ : Aside0 (((w15.setCell ⟨gb343, 0, none⟩ (.int .i64 t338)).setCell ⟨gb343, 1, none⟩ (.slice Ao18 t339.length co18)).heap[gb333]? = some (.cells #[.int .i64 0, .slice none 0 0] 27 (0, 0))) := ⟨by refine sqK ?_; refine qk ?_ NB333_343.out _; refine sqK ?_; refine qk ?_ NB333_343.out _; refine sqK ?_; exact BK333.out⟩
        have n3_ : Aside0 (((w15.setCell ⟨gb343, 0, none⟩ (.int .i64 t338)).setCell ⟨gb343, 1, none⟩ (.slice Ao18 t339.length co18)).heap[gb343]? = some (.cells #[.int .i64 t338, .slice Ao18 t339.length co18] 27 (0, 0))) := ⟨by refine sqK ?_; refine zB (cs := #[.int .i64 t338, .slice none 0 0]) ?_ 1 _ rfl; refine sqK ?_; refine zB (cs := #[.int .i64 0, .slice none 0 0]) ?_ 0 _ rfl; refine sqK ?_; exact BK343.out⟩
        have n4_ : Aside0 (Below wl.heap.size wl ((w15.setCell ⟨gb343, 0, none⟩ (.int .i64 t338)).setCell ⟨gb343, 1, none⟩ (.slice Ao18 t339.length co18))) := ⟨sqB⟩
        (try clear HO337)
        (try clear HO341)
        (try clear BK333)
        (try clear BK343)
        (try clear HB)
        generalize ((w15.setCell ⟨gb343, 0, none⟩ (.int .i64 t338)).setCell ⟨gb343, 1, none⟩ (.slice Ao18 t339.length co18)) = w19 at n0_ n1_ n2_ n3_ n4_ ⊢
        have HO337 := n0_
        have HO341 := n1_
        have BK333 := n2_
        have BK343 := n3_
        have HB := n4_
        clear n0_ n1_ n2_ n3_ n4_
        have n0_ := Aside0.mk (Kd.jM HO337.out)
        have n1_ := Aside0.mk (Kd.jM HO341.out)
        have n2_ := Aside0.mk (jl BK333.out)
        have n3_ := Aside0.mk (jl BK343.out)
        have n4_ := Aside0.mk (qi HB.out)
        clear HO337
        clear HO341
        clear BK333
        clear BK343
        clear HB
        have HO337 := n0_
        have HO341 := n1_
        have BK333 := n2_
        have BK343 := n3_
        have HB := n4_
        clear n0_ n1_ n2_ n3_ n4_
        refine jS (n := 9) (S := fun w' => w'.cell? ⟨gb343, 0, none⟩ = some (.int .i64 t338) ∧ w'.cell? ⟨gb343, 1, none⟩ = some (.slice Ao18 t339.length co18) ∧ w'.cell? ⟨gl, 0, none⟩ = some (.slice A1 l1.length c1)) (ds := []) #[false, false, false, false, false, false, false, false, false] (by kernel_rfl) rfl rfl ⟨(zb BK343.out 0).trans rfl, (zb BK343.out 1).trans rfl, (zb (ze BKl.out HB.out) 0).trans rfl⟩ (fun hHeld => ?_); refine jg zX.zbe zX.zaz (fun HT_ HW_ => ?_)
        generalize w19.drew = w20 at HO337 HO341 BK333 BK343 HB hHeld ⊢
        refine zJ (i := 0) (N := some 21) (v := ?_) (a' := ?_) #[true, false, false, false, false, false, false, false, false] rfl rfl (zx HT_.out (by kernel_rfl)) (fun _ _ _ h => h) (Or.inl ⟨by rfl, ?_⟩) ?_ ?_
        rotate_left
        · intro w'
          go_simp
          with_reducible rfl
        rotate_left
        · simp only [Act.put, List.setIfInBounds_toArray, List.set_cons_zero, List.set_cons_succ, zj, zo]
          rfl
        refine zJ (i := 1) (N := some 22) (v := ?_) (a' := ?_) #[true, true, false, false, false, false, false, false, false] rfl rfl (zx HT_.out (by kernel_rfl)) (fun _ _ _ h => h) (Or.inl ⟨by rfl, ?_⟩) ?_ ?_
        rotate_left
        · intro w'
          go_simp
          with_reducible rfl
        rotate_left
        · simp only [Act.put, List.setIfInBounds_toArray, List.set_cons_zero, List.set_cons_succ, zj, zo]
          rfl
        refine zJ (i := 2) (N := some 23) (v := ?_) (a' := ?_) #[true, true, true, false, false, false, false, false, false] rfl rfl (zx HT_.out (by kernel_rfl)) (fun _ _ _ h => h) (Or.inl ⟨by rfl, ?_⟩) ?_ ?_
        rotate_left
        · intro w'
          go_simp
          with_reducible rfl
        rotate_left
        · simp only [Act.put, List.setIfInBounds_toArray, List.set_cons_zero, List.set_cons_succ, zj, zo]
          rfl
        refine jy (i := 5) (N := some 26) (v := ?_) (a' := ?_) #[true, true, true, false, false, true, false, false, false] rfl rfl (qW HT_.out HW_.out (by kernel_rfl)) (fun _ _ _ h => h) (Or.inl ⟨by rfl, ?_⟩) hHeld ?_ ?_
        rotate_left
        · rintro w' ⟨s0, s1, s2⟩
          go_simp
          with_reducible rfl
        rotate_left
        · simp only [Act.put, List.setIfInBounds_toArray, List.set_cons_zero, List.set_cons_succ, zj, zo]
          rfl
        refine jy (i := 3) (N := some 24) (v := ?_) (a' := ?_) #[true, true, true, true, false, true, false, false, false] rfl rfl (qW HT_.out HW_.out (by kernel_rfl)) (fun _ _ _ h => h) (Or.inl ⟨by rfl, ?_⟩) hHeld ?_ ?_
        rotate_left
        · rintro w' ⟨s0, s1, s2⟩
          go_simp
          with_reducible rfl
        rotate_left
        · simp only [Act.put, List.setIfInBounds_toArray, List.set_cons_zero, List.set_cons_succ, zj, zo]
          rfl
        refine yc (i := 4) (N := some 25) #[true, true, true, true, true, true, false, false, false] rfl rfl (jN HT_.out (by kernel_rfl)) (by decide) (fun K hK => ?_)
        refine yf Try.func43 (by kernel_rfl) rfl #[.agg #[.int .i64 t338, .slice Ao18 t339.length co18]] (by rfl) rfl rfl sqM ?_
        with_reducible refine (qc.calls k t338 _ _ t339 t344 _ ?side1 ?side2 A8.out).mono ?_
        (case side1 => exact sqC (Kd.zh HO341.out).2.2)
        (case side2 => exact (Kd.zh HO341.out).2.1)
        rintro e w21 ⟨v345, rfl, ho0, hb⟩
        refine ⟨_, rfl, ?_⟩
        have n0_ := Aside0.mk (Kd.zU (sqR HO337.out) (Kd.qt ho0) hb)
        have n1_ := Aside0.mk (Kd.zU (sqR HO341.out) (Kd.qt ho0) hb)
        have n2_ := Aside0.mk (Kd.zD (Kd.qu (Kd.qu ho0 (Kd.jd (sqR HO337.out))) (Kd.jd (sqR HO341.out))) (zg sqB))
        have n3_ := Aside0.mk (ze (g := gb333) (o := .cells #[.int .i64 0, .slice none 0 0] 27 (0, 0)) (sqK BK333.out) hb)
        have n4_ := Aside0.mk (ze (g := gb343) (o := .cells #[.int .i64 t338, .slice Ao18 t339.length co18] 27 (0, 0)) (sqK BK343.out) hb)
        have n5_ := Aside0.mk (zc sqB hb)
        clear HO337
        clear HO341
        clear BK333
        clear BK343
        clear HB
        have HO337 := n0_
        have HO341 := n1_
        have HO346 := n2_
        have BK333 := n3_
        have BK343 := n4_
        have HB := n5_
        clear n0_ n1_ n2_ n3_ n4_ n5_
        (try clear hb)
        (try clear hb2)
        (try clear hk)
        (try clear hi)
        (try clear ho0)
        obtain ⟨Ao22, co22, eo22⟩ := Kd.zR HO346.out
        (first | subst eo22 | (injection eo22 with f1_ f2_ f3_; have f4_ := f1_.symm; have f5_ := f3_.symm; clear f1_ f2_ f3_; subst f4_; subst f5_))
        refine hK.out _ _ ⟨(zb BK343.out 0).trans rfl, (zb BK343.out 1).trans rfl, (zb (ze BKl.out HB.out) 0).trans rfl⟩ (fun hHeld => ?_)
        clear hK K
        refine vm (a' := ?_) ?_ ?_
        rotate_left
        · show Act.put _ (some 25) _ = _
          simp only [Act.put, List.setIfInBounds_toArray, List.set_cons_zero, List.set_cons_succ, zj, zo]
          rfl
        refine yc (i := 6) (N := some 27) #[true, true, true, true, true, true, true, false, false] rfl rfl (jN HT_.out (by kernel_rfl)) (by decide) (fun K hK => ?_)
        refine yf Try.func54 (by kernel_rfl) rfl #[.slice Ao22 t344.length co22, .slice A1 l1.length c1] (by rfl) rfl rfl sqM ?_
        with_reducible refine (zq.calls k _ _ t344 _ _ l1 true _ ?side1 ?side2 ?side3 ?side4 A9.out).mono ?_
        (case side1 => exact sqC (Kd.zh HO346.out).2.2)
        (case side2 => exact (Kd.zh HO346.out).2.1)
        (case side3 => exact sqC (Kd.zp HR1.out HB.out))
        (case side4 => exact HC1.out)
        rintro e w' ⟨rfl, ⟨nd, rfl⟩⟩
        refine ⟨_, rfl, ?_⟩
        refine hK.out _ _ ⟨(zb BK343.out 0).trans rfl, (zb BK343.out 1).trans rfl, (zb (ze BKl.out HB.out) 0).trans rfl⟩ (fun hHeld => ?_)
        clear hK K
        refine vm (a' := ?_) ?_ ?_
        rotate_left
        · show Act.put _ (some 27) _ = _
          simp only [Act.put, List.setIfInBounds_toArray, List.set_cons_zero, List.set_cons_succ, zj, zo]
          rfl
        refine zJ (i := 7) (N := some 28) (v := ?_) (a' := ?_) #[true, true, true, true, true, true, true, true, false] rfl rfl (zx HT_.out (by kernel_rfl)) (fun _ _ _ h => h) (Or.inl ⟨by rfl, ?_⟩) ?_ ?_
        rotate_left
        · intro w'
          go_simp
          with_reducible rfl
        rotate_left
        · simp only [Act.put, List.setIfInBounds_toArray, List.set_cons_zero, List.set_cons_succ, zj, zo]
          rfl
        refine zJ (i := 8) (N := some 29) (v := ?_) (a' := ?_) #[true, true, true, true, true, true, true, true, true] rfl rfl (zx HT_.out (by kernel_rfl)) (fun _ _ _ h => h) (Or.inl ⟨by rfl, ?_⟩) ?_ ?_
        rotate_left
        · intro w'
          go_simp
          with_reducible rfl
        rotate_left
        · simp only [Act.put, List.setIfInBounds_toArray, List.set_cons_zero, List.set_cons_succ, zj, zo]
          rfl
        refine vu (jC HT_.out (by kernel_rfl)) ?_
        have hcz23_0 : w21.cell? ⟨gb343, 0, none⟩ = some (.int .i64 t338) := (zb BK343.out 0).trans rfl
        have hcz23_1 : w21.cell? ⟨gb343, 1, none⟩ = some (.slice Ao18 t339.length co18) := (zb BK343.out 1).trans rfl
        have hfz23_0 := za BK343.out 0
        have hfz23_1 := za BK343.out 1
        have hcz24_0 : w21.cell? ⟨gb333, 0, none⟩ = some (.int .i64 0) := (zb BK333.out 0).trans rfl
        have hcz24_1 : w21.cell? ⟨gb333, 1, none⟩ = some (.slice none 0 0) := (zb BK333.out 1).trans rfl
        have hfz24_0 := za BK333.out 0
        have hfz24_1 := za BK333.out 1
        (try clear hcl)
        have hcl : World.cell? _ ⟨gl, 0, none⟩ = some (.slice A1 l1.length c1) := (zb (ze BKl.out HB.out) 0).trans rfl
        try go_wp2
        refine bodyPost_ret (qG rfl _ _ gb333 27 #[.int .i64 t338, .slice Ao18 t339.length co18] (0, 0) _ rfl (by refine sqK ?_; refine zB (cs := #[.int .i64 t338, .slice none 0 0]) ?_ 1 _ rfl; refine sqK ?_; refine zB (cs := #[.int .i64 0, .slice none 0 0]) ?_ 0 _ rfl; refine sqK ?_; exact BK333.out) Try.underlying27 rfl (by kernel_rfl)) rfl ?_
        exact ⟨_, sqE, Kd.zD (base := wl.heap.size) (by refine sqR ?_; exact Kd.zu (Kd.zC (p := ⟨gb333, 1, none⟩) (Kd.zC (p := ⟨gb333, 0, none⟩) (Kd.zK HO341.out BK333.out (by decide)) (fun _ hk => hk.2) (.int .i64 t338)) (fun _ hk => hk.2) (.slice Ao18 t339.length co18)) (fun _ hk => trivial)) (zg HBl.out), zc HBl.out sqB⟩
      · replace c10 := Bool.eq_false_iff.mpr c10
        subst c10
        have H1 : (some (0, ([] : List Int), false)) = some (r1, r2, r3) := by rw [if_neg (show ¬ (false = true) by decide)] at H; exact H
        clear H
        have H := H1
        clear H1
        simp only [Option.some.injEq, Prod.mk.injEq] at H
        obtain ⟨rfl, rfl, rfl⟩ := H
        go_enter Try.func72, Try.ntmps72
        go_wp2_with (first
          | ((with_reducible refine zi (N := 3) rfl ?_); refine zl ?hg (N := 3) ?hd (cs := #[.slice A1 l1.length c1]) (t := 22) ?hr ?_; (case hd => rfl); (case hg => rfl); (case hr => exact sqG); intro gl hg wl hbox hb; have HBl := Aside0.mk hb; have BKl := Aside0.mk hbox; have nr_ := Aside0.mk (Kd.zp HR1.out hb); clear HR1 HB; have HR1 := nr_; clear nr_; have HB := Aside0.mk (Below.refl wl.heap.size wl); have hcl : wl.cell? ⟨gl, 0, none⟩ = some (.slice A1 l1.length c1) := (zb BKl.out 0).trans rfl; clear hb hbox hg)
          | ((with_reducible refine zi (N := 4) rfl ?_); refine zl ?hg (N := 4) ?hd (cs := #[.int .i64 0, .slice none 0 0]) (t := 27) ?hr ?_; (case hd => rfl); (case hg => rfl); (case hr => exact sqG); intro gb333 hg w25 hbox hb; have n0_ := Aside0.mk (zc sqB hb); have n1_ := Aside0.mk (hbox); have n2_ := Aside0.mk ((sqS hg : wl.heap.size ≤ gb333)); have n3_ := Aside0.mk ((sqS hg : wl.heap.size ≤ gb333)); clear HB; have HB := n0_; have BK333 := n1_; have GW333 := n2_; have GE333 := n3_; clear n0_ n1_ n2_ n3_; clear hb hbox hg; (try clear hcl); have hcl : World.cell? _ ⟨gl, 0, none⟩ = some (.slice A1 l1.length c1) := (zb (ze BKl.out HB.out) 0).trans rfl)
          | ((with_reducible refine zd (f := 52) rfl ?_); refine zn (some 10) rfl rfl Try.func52 (by kernel_rfl) rfl #[.int .i64 a0, .slice A1 l1.length c1] rfl sqM ?_; (with_reducible refine (zE.calls k a0 _ _ l1 true _ ?side1 ?side2 A3.out).mono ?_); (case side1 => exact sqC (Kd.zp HR1.out HB.out)); (case side2 => exact HC1.out); rintro e w' ⟨rfl, ⟨nd, rfl⟩⟩; refine ⟨_, rfl, ?_⟩; (try (rw [qz w25]; generalize hq_ : World.drewN w25 _ = w25; have n0_ : Aside0 (w25.heap[gb333]? = some (.cells #[.int .i64 0, .slice none 0 0] 27 (0, 0))) := ⟨by rw [← hq_]; exact (sqK BK333.out)⟩; have n1_ : Aside0 (Below wl.heap.size wl w25) := ⟨by rw [← hq_]; exact sqB⟩; clear BK333 HB hq_; have BK333 := n0_; have HB := n1_; clear n0_ n1_; have hczqgb333_0 : w25.cell? ⟨gb333, 0, none⟩ = some (.int .i64 0) := (zb BK333.out 0).trans rfl; have hfzqgb333_0 := za BK333.out 0; have hczqgb333_1 : w25.cell? ⟨gb333, 1, none⟩ = some (.slice none 0 0) := (zb BK333.out 1).trans rfl; have hfzqgb333_1 := za BK333.out 1)); (try clear hcl); have hcl : World.cell? _ ⟨gl, 0, none⟩ = some (.slice A1 l1.length c1) := (zb (ze BKl.out HB.out) 0).trans rfl)
          | ((with_reducible refine zd (f := 53) rfl ?_); refine zn (some 18) rfl rfl Try.func53 (by kernel_rfl) rfl #[.int .i64 a0, .slice Ao27 t335.length co27] rfl sqM ?_; (with_reducible refine (zS.calls k a0 _ _ t335 t338 t339 true _ ?side1 ?side2 A6.out).mono ?_); (case side1 => exact sqC (Kd.zh HO337.out).2.2); (case side2 => exact (Kd.zh HO337.out).2.1); rintro e w28 ⟨v340, rfl, ho0, hb⟩; refine ⟨_, rfl, ?_⟩; have n0_ := Aside0.mk (Kd.zU (sqR HO337.out) (Kd.qt ho0) hb); have n1_ := Aside0.mk (Kd.zD (Kd.qu ho0 (Kd.jd (sqR HO337.out))) (zg sqB)); have n2_ := Aside0.mk (ze (g := gb333) (o := .cells #[.int .i64 0, .slice none 0 0] 27 (0, 0)) (sqK BK333.out) hb); have n3_ := Aside0.mk (zc sqB hb); clear HO337; clear BK333; clear HB; have HO337 := n0_; have HO341 := n1_; have BK333 := n2_; have HB := n3_; clear n0_ n1_ n2_ n3_; (try clear hb); (try clear hb2); (try clear hk); (try clear hi); (try clear ho0); (try clear hcl); have hcl : World.cell? _ ⟨gl, 0, none⟩ = some (.slice A1 l1.length c1) := (zb (ze BKl.out HB.out) 0).trans rfl)
          | ((with_reducible refine zi (N := 6) rfl ?_); refine zl ?hg (N := 6) ?hd (cs := #[.int .i64 0, .slice none 0 0]) (t := 27) ?hr ?_; (case hd => rfl); (case hg => rfl); (case hr => exact sqG); intro gb343 hg w29 hbox hb; have n0_ := Aside0.mk (Kd.zz (sqR HO337.out) hb); have n1_ := Aside0.mk (Kd.zz (sqR HO341.out) hb); have n2_ := Aside0.mk (ze (g := gb333) (o := .cells #[.int .i64 0, .slice none 0 0] 27 (0, 0)) (sqK BK333.out) hb); have n3_ := Aside0.mk (zc sqB hb); have n4_ := Aside0.mk (hbox); have n5_ := Aside0.mk ((sqS hg : wl.heap.size ≤ gb343)); have n6_ := Aside0.mk ((sqS hg : wl.heap.size ≤ gb343)); have n7_ := Aside0.mk ((by rw [hg]; exact Nat.ne_of_lt (zV (g := gb333) (o := .cells #[.int .i64 0, .slice none 0 0] 27 (0, 0)) (sqK BK333.out)) : gb333 ≠ gb343)); have n8_ := Aside0.mk ((by rw [hg]; exact Nat.ne_of_gt (zV (g := gb333) (o := .cells #[.int .i64 0, .slice none 0 0] 27 (0, 0)) (sqK BK333.out)) : gb343 ≠ gb333)); clear HO337; clear HO341; clear BK333; clear HB; have HO337 := n0_; have HO341 := n1_; have BK333 := n2_; have HB := n3_; have BK343 := n4_; have GW343 := n5_; have GE343 := n6_; have NB333_343 := n7_; have NB343_333 := n8_; clear n0_ n1_ n2_ n3_ n4_ n5_ n6_ n7_ n8_; clear hb hbox hg; have hnb30 := NB343_333.out; have hnc30 := NB333_343.out; have hcz31_0 : w29.cell? ⟨gb343, 0, none⟩ = some (.int .i64 0) := (zb BK343.out 0).trans rfl; have hcz31_1 : w29.cell? ⟨gb343, 1, none⟩ = some (.slice none 0 0) := (zb BK343.out 1).trans rfl; have hfz31_0 := za BK343.out 0; have hfz31_1 := za BK343.out 1; obtain ⟨Ao32, co32, eo32⟩ := Kd.zR HO341.out; subst eo32; (try clear hcl); have hcl : World.cell? _ ⟨gl, 0, none⟩ = some (.slice A1 l1.length c1) := (zb (ze BKl.out HB.out) 0).trans rfl))
        refine (vr (zM.q l1) _ _ (enters_of Try.func103 (by kernel_rfl) rfl) k a0 t335 _ (zM.pred l1 _ c1 gl _ (ze BKl.out sqB) (Kd.zp HR1.out sqB) HC1.out) A5.out).mono ?_
        rintro e w26 ⟨v336, rfl, ho0, hb⟩
        have n0_ := Aside0.mk (Kd.zD ho0 (zg sqB))
        have n1_ := Aside0.mk (ze (g := gb333) (o := .cells #[.int .i64 0, .slice none 0 0] 27 (0, 0)) (sqK BK333.out) hb)
        have n2_ := Aside0.mk (zc sqB hb)
        clear BK333
        clear HB
        have HO337 := n0_
        have BK333 := n1_
        have HB := n2_
        clear n0_ n1_ n2_
        (try clear hb)
        (try clear hb2)
        (try clear hk)
        (try clear hi)
        (try clear ho0)
        obtain ⟨Ao27, co27, eo27⟩ := Kd.zR HO337.out
        subst eo27
        (try clear hcl)
        have hcl : World.cell? _ ⟨gl, 0, none⟩ = some (.slice A1 l1.length c1) := (zb (ze BKl.out HB.out) 0).trans rfl
        go_wp2_with (first
          | ((with_reducible refine zi (N := 4) rfl ?_); refine zl ?hg (N := 4) ?hd (cs := #[.int .i64 0, .slice none 0 0]) (t := 27) ?hr ?_; (case hd => rfl); (case hg => rfl); (case hr => exact sqG); intro gb333 hg w25 hbox hb; have n0_ := Aside0.mk (zc sqB hb); have n1_ := Aside0.mk (hbox); have n2_ := Aside0.mk ((sqS hg : wl.heap.size ≤ gb333)); have n3_ := Aside0.mk ((sqS hg : wl.heap.size ≤ gb333)); clear HB; have HB := n0_; have BK333 := n1_; have GW333 := n2_; have GE333 := n3_; clear n0_ n1_ n2_ n3_; clear hb hbox hg; (try clear hcl); have hcl : World.cell? _ ⟨gl, 0, none⟩ = some (.slice A1 l1.length c1) := (zb (ze BKl.out HB.out) 0).trans rfl)
          | ((with_reducible refine zd (f := 52) rfl ?_); refine zn (some 10) rfl rfl Try.func52 (by kernel_rfl) rfl #[.int .i64 a0, .slice A1 l1.length c1] rfl sqM ?_; (with_reducible refine (zE.calls k a0 _ _ l1 true _ ?side1 ?side2 A3.out).mono ?_); (case side1 => exact sqC (Kd.zp HR1.out HB.out)); (case side2 => exact HC1.out); rintro e w' ⟨rfl, ⟨nd, rfl⟩⟩; refine ⟨_, rfl, ?_⟩; (try (rw [qz w25]; generalize hq_ : World.drewN w25 _ = w25; have n0_ : Aside0 (w25.heap[gb333]? = some (.cells #[.int .i64 0, .slice none 0 0] 27 (0, 0))) := ⟨by rw [← hq_]; exact (sqK BK333.out)⟩; have n1_ : Aside0 (Below wl.heap.size wl w25) := ⟨by rw [← hq_]; exact sqB⟩; clear BK333 HB hq_; have BK333 := n0_; have HB := n1_; clear n0_ n1_; have hczqgb333_0 : w25.cell? ⟨gb333, 0, none⟩ = some (.int .i64 0) := (zb BK333.out 0).trans rfl; have hfzqgb333_0 := za BK333.out 0; have hczqgb333_1 : w25.cell? ⟨gb333, 1, none⟩ = some (.slice none 0 0) := (zb BK333.out 1).trans rfl; have hfzqgb333_1 := za BK333.out 1)); (try clear hcl); have hcl : World.cell? _ ⟨gl, 0, none⟩ = some (.slice A1 l1.length c1) := (zb (ze BKl.out HB.out) 0).trans rfl)
          | ((with_reducible refine zd (f := 53) rfl ?_); refine zn (some 18) rfl rfl Try.func53 (by kernel_rfl) rfl #[.int .i64 a0, .slice Ao27 t335.length co27] rfl sqM ?_; (with_reducible refine (zS.calls k a0 _ _ t335 t338 t339 true _ ?side1 ?side2 A6.out).mono ?_); (case side1 => exact sqC (Kd.zh HO337.out).2.2); (case side2 => exact (Kd.zh HO337.out).2.1); rintro e w28 ⟨v340, rfl, ho0, hb⟩; refine ⟨_, rfl, ?_⟩; have n0_ := Aside0.mk (Kd.zU (sqR HO337.out) (Kd.qt ho0) hb); have n1_ := Aside0.mk (Kd.zD (Kd.qu ho0 (Kd.jd (sqR HO337.out))) (zg sqB)); have n2_ := Aside0.mk (ze (g := gb333) (o := .cells #[.int .i64 0, .slice none 0 0] 27 (0, 0)) (sqK BK333.out) hb); have n3_ := Aside0.mk (zc sqB hb); clear HO337; clear BK333; clear HB; have HO337 := n0_; have HO341 := n1_; have BK333 := n2_; have HB := n3_; clear n0_ n1_ n2_ n3_; (try clear hb); (try clear hb2); (try clear hk); (try clear hi); (try clear ho0); (try clear hcl); have hcl : World.cell? _ ⟨gl, 0, none⟩ = some (.slice A1 l1.length c1) := (zb (ze BKl.out HB.out) 0).trans rfl)
          | ((with_reducible refine zi (N := 6) rfl ?_); refine zl ?hg (N := 6) ?hd (cs := #[.int .i64 0, .slice none 0 0]) (t := 27) ?hr ?_; (case hd => rfl); (case hg => rfl); (case hr => exact sqG); intro gb343 hg w29 hbox hb; have n0_ := Aside0.mk (Kd.zz (sqR HO337.out) hb); have n1_ := Aside0.mk (Kd.zz (sqR HO341.out) hb); have n2_ := Aside0.mk (ze (g := gb333) (o := .cells #[.int .i64 0, .slice none 0 0] 27 (0, 0)) (sqK BK333.out) hb); have n3_ := Aside0.mk (zc sqB hb); have n4_ := Aside0.mk (hbox); have n5_ := Aside0.mk ((sqS hg : wl.heap.size ≤ gb343)); have n6_ := Aside0.mk ((sqS hg : wl.heap.size ≤ gb343)); have n7_ := Aside0.mk ((by rw [hg]; exact Nat.ne_of_lt (zV (g := gb333) (o := .cells #[.int .i64 0, .slice none 0 0] 27 (0, 0)) (sqK BK333.out)) : gb333 ≠ gb343)); have n8_ := Aside0.mk ((by rw [hg]; exact Nat.ne_of_gt (zV (g := gb333) (o := .cells #[.int .i64 0, .slice none 0 0] 27 (0, 0)) (sqK BK333.out)) : gb343 ≠ gb333)); clear HO337; clear HO341; clear BK333; clear HB; have HO337 := n0_; have HO341 := n1_; have BK333 := n2_; have HB := n3_; have BK343 := n4_; have GW343 := n5_; have GE343 := n6_; have NB333_343 := n7_; have NB343_333 := n8_; clear n0_ n1_ n2_ n3_ n4_ n5_ n6_ n7_ n8_; clear hb hbox hg; have hnb30 := NB343_333.out; have hnc30 := NB333_343.out; have hcz31_0 : w29.cell? ⟨gb343, 0, none⟩ = some (.int .i64 0) := (zb BK343.out 0).trans rfl; have hcz31_1 : w29.cell? ⟨gb343, 1, none⟩ = some (.slice none 0 0) := (zb BK343.out 1).trans rfl; have hfz31_0 := za BK343.out 0; have hfz31_1 := za BK343.out 1; obtain ⟨Ao32, co32, eo32⟩ := Kd.zR HO341.out; subst eo32; (try clear hcl); have hcl : World.cell? _ ⟨gl, 0, none⟩ = some (.slice A1 l1.length c1) := (zb (ze BKl.out HB.out) 0).trans rfl))
        have n0_ : Aside0 (Kd.R (Kd.int .i64) 3 ((w29.setCell ⟨gb343, 0, none⟩ (.int .i64 t338)).setCell ⟨gb343, 1, none⟩ (.slice Ao32 t339.length co32)) wl.heap.size (fun k_ => some k_ ≠ (.slice Ao32 t339.length co32 : Value).ownBlock) (.slice Ao27 t335.length co27) t335) := ⟨by refine sqR ?_; exact Kd.zu (Kd.zC (p := ⟨gb343, 1, none⟩) (Kd.zC (p := ⟨gb343, 0, none⟩) (Kd.zK HO337.out BK343.out (by decide)) (fun _ hk => hk.2) (.int .i64 t338)) (fun _ hk => hk.2) (.slice Ao32 t339.length co32)) (fun _ hk => hk.1.2)⟩
        have n1_ : Aside0 (Kd.R (Kd.int .i64) 3 ((w29.setCell ⟨gb343, 0, none⟩ (.int .i64 t338)).setCell ⟨gb343, 1, none⟩ (.slice Ao32 t339.length co32)) wl.heap.size (fun k_ => some k_ ≠ (.slice Ao27 t335.length co27 : Value).ownBlock) (.slice Ao32 t339.length co32) t339) := ⟨by refine sqR ?_; exact Kd.zu (Kd.zC (p := ⟨gb343, 1, none⟩) (Kd.zC (p := ⟨gb343, 0, none⟩) (Kd.zK HO341.out BK343.out (by decide)) (fun _ hk => hk.2) (.int .i64 t338)) (fun _ hk => hk.2) (.slice Ao32 t339.length co32)) (fun _ hk => hk.1.2)⟩
        have n2_ : Aside0 (((w29.setCell ⟨gb343, 0, none⟩ (.int .i64 t338)).setCell ⟨gb343, 1, none⟩ (.slice Ao32 t339.length co32)).heap[gb333]? = some (.cells #[.int .i64 0, .slice none 0 0] 27 (0, 0))) := ⟨by refine sqK ?_; refine qk ?_ NB333_343.out _; refine sqK ?_; refine qk ?_ NB333_343.out _; refine sqK ?_; exact BK333.out⟩
        have n3_ : Aside0 (((w29.setCell ⟨gb343, 0, none⟩ (.int .i64 t338)).setCell ⟨gb343, 1, none⟩ (.slice Ao32 t339.length co32)).heap[gb343]? = some (.cells #[.int .i64 t338, .slice Ao32 t339.length co32] 27 (0, 0))) := ⟨by refine sqK ?_; refine zB (cs := #[.int .i64 t338, .slice none 0 0]) ?_ 1 _ rfl; refine sqK ?_; refine zB (cs := #[.int .i64 0, .slice none 0 0]) ?_ 0 _ rfl; refine sqK ?_; exact BK343.out⟩
        have n4_ : Aside0 (Below wl.heap.size wl ((w29.setCell ⟨gb343, 0, none⟩ (.int .i64 t338)).setCell ⟨gb343, 1, none⟩ (.slice Ao32 t339.length co32))) := ⟨sqB⟩
        (try clear HO337)
        (try clear HO341)
        (try clear BK333)
        (try clear BK343)
        (try clear HB)
        generalize ((w29.setCell ⟨gb343, 0, none⟩ (.int .i64 t338)).setCell ⟨gb343, 1, none⟩ (.slice Ao32 t339.length co32)) = w33 at n0_ n1_ n2_ n3_ n4_ ⊢
        have HO337 := n0_
        have HO341 := n1_
        have BK333 := n2_
        have BK343 := n3_
        have HB := n4_
        clear n0_ n1_ n2_ n3_ n4_
        have n0_ := Aside0.mk (Kd.jM HO337.out)
        have n1_ := Aside0.mk (Kd.jM HO341.out)
        have n2_ := Aside0.mk (jl BK333.out)
        have n3_ := Aside0.mk (jl BK343.out)
        have n4_ := Aside0.mk (qi HB.out)
        clear HO337
        clear HO341
        clear BK333
        clear BK343
        clear HB
        have HO337 := n0_
        have HO341 := n1_
        have BK333 := n2_
        have BK343 := n3_
        have HB := n4_
        clear n0_ n1_ n2_ n3_ n4_
        refine jS (n := 9) (S := fun w' => w'.cell? ⟨gb343, 0, none⟩ = some (.int .i64 t338) ∧ w'.cell? ⟨gb343, 1, none⟩ = some (.slice Ao32 t339.length co32) ∧ w'.cell? ⟨gl, 0, none⟩ = some (.slice A1 l1.length c1)) (ds := []) #[false, false, false, false, false, false, false, false, false] (by kernel_rfl) rfl rfl ⟨(zb BK343.out 0).trans rfl, (zb BK343.out 1).trans rfl, (zb (ze BKl.out HB.out) 0).trans rfl⟩ (fun hHeld => ?_); refine jg zX.zbe zX.zaz (fun HT_ HW_ => ?_)
        generalize w33.drew = w34 at HO337 HO341 BK333 BK343 HB hHeld ⊢
        refine zJ (i := 0) (N := some 21) (v := ?_) (a' := ?_) #[true, false, false, false, false, false, false, false, false] rfl rfl (zx HT_.out (by kernel_rfl)) (fun _ _ _ h => h) (Or.inl ⟨by rfl, ?_⟩) ?_ ?_
        rotate_left
        · intro w'
          go_simp
          with_reducible rfl
        rotate_left
        · simp only [Act.put, List.setIfInBounds_toArray, List.set_cons_zero, List.set_cons_succ, zj, zo]
          rfl
        refine zJ (i := 1) (N := some 22) (v := ?_) (a' := ?_) #[true, true, false, false, false, false, false, false, false] rfl rfl (zx HT_.out (by kernel_rfl)) (fun _ _ _ h => h) (Or.inl ⟨by rfl, ?_⟩) ?_ ?_
        rotate_left
        · intro w'
          go_simp
          with_reducible rfl
        rotate_left
        · simp only [Act.put, List.setIfInBounds_toArray, List.set_cons_zero, List.set_cons_succ, zj, zo]
          rfl
        refine zJ (i := 2) (N := some 23) (v := ?_) (a' := ?_) #[true, true, true, false, false, false, false, false, false] rfl rfl (zx HT_.out (by kernel_rfl)) (fun _ _ _ h => h) (Or.inl ⟨by rfl, ?_⟩) ?_ ?_
        rotate_left
        · intro w'
          go_simp
          with_reducible rfl
        rotate_left
        · simp only [Act.put, List.setIfInBounds_toArray, List.set_cons_zero, List.set_cons_succ, zj, zo]
          rfl
        refine jy (i := 5) (N := some 26) (v := ?_) (a' := ?_) #[true, true, true, false, false, true, false, false, false] rfl rfl (qW HT_.out HW_.out (by kernel_rfl)) (fun _ _ _ h => h) (Or.inl ⟨by rfl, ?_⟩) hHeld ?_ ?_
        rotate_left
        · rintro w' ⟨s0, s1, s2⟩
          go_simp
          with_reducible rfl
        rotate_left
        · simp only [Act.put, List.setIfInBounds_toArray, List.set_cons_zero, List.set_cons_succ, zj, zo]
          rfl
        refine jy (i := 3) (N := some 24) (v := ?_) (a' := ?_) #[true, true, true, true, false, true, false, false, false] rfl rfl (qW HT_.out HW_.out (by kernel_rfl)) (fun _ _ _ h => h) (Or.inl ⟨by rfl, ?_⟩) hHeld ?_ ?_
        rotate_left
        · rintro w' ⟨s0, s1, s2⟩
          go_simp
          with_reducible rfl
        rotate_left
        · simp only [Act.put, List.setIfInBounds_toArray, List.set_cons_zero, List.set_cons_succ, zj, zo]
          rfl
        refine yc (i := 4) (N := some 25) #[true, true, true, true, true, true, false, false, false] rfl rfl (jN HT_.out (by kernel_rfl)) (by decide) (fun K hK => ?_)
        refine yf Try.func43 (by kernel_rfl) rfl #[.agg #[.int .i64 t338, .slice Ao32 t339.length co32]] (by rfl) rfl rfl sqM ?_
        with_reducible refine (qc.calls k t338 _ _ t339 t344 _ ?side1 ?side2 A8.out).mono ?_
        (case side1 => exact sqC (Kd.zh HO341.out).2.2)
        (case side2 => exact (Kd.zh HO341.out).2.1)
        rintro e w35 ⟨v345, rfl, ho0, hb⟩
        refine ⟨_, rfl, ?_⟩
        have n0_ := Aside0.mk (Kd.zU (sqR HO337.out) (Kd.qt ho0) hb)
        have n1_ := Aside0.mk (Kd.zU (sqR HO341.out) (Kd.qt ho0) hb)
        have n2_ := Aside0.mk (Kd.zD (Kd.qu (Kd.qu ho0 (Kd.jd (sqR HO337.out))) (Kd.jd (sqR HO341.out))) (zg sqB))
        have n3_ := Aside0.mk (ze (g := gb333) (o := .cells #[.int .i64 0, .slice none 0 0] 27 (0, 0)) (sqK BK333.out) hb)
        have n4_ := Aside0.mk (ze (g := gb343) (o := .cells #[.int .i64 t338, .slice Ao32 t339.length co32] 27 (0, 0)) (sqK BK343.out) hb)
        have n5_ := Aside0.mk (zc sqB hb)
        clear HO337
        clear HO341
        clear BK333
        clear BK343
        clear HB
        have HO337 := n0_
        have HO341 := n1_
        have HO346 := n2_
        have BK333 := n3_
        have BK343 := n4_
        have HB := n5_
        clear n0_ n1_ n2_ n3_ n4_ n5_
        (try clear hb)
        (try clear hb2)
        (try clear hk)
        (try clear hi)
        (try clear ho0)
        obtain ⟨Ao36, co36, eo36⟩ := Kd.zR HO346.out
        (first | subst eo36 | (injection eo36 with f1_ f2_ f3_; have f4_ := f1_.symm; have f5_ := f3_.symm; clear f1_ f2_ f3_; subst f4_; subst f5_))
        refine hK.out _ _ ⟨(zb BK343.out 0).trans rfl, (zb BK343.out 1).trans rfl, (zb (ze BKl.out HB.out) 0).trans rfl⟩ (fun hHeld => ?_)
        clear hK K
        refine vm (a' := ?_) ?_ ?_
        rotate_left
        · show Act.put _ (some 25) _ = _
          simp only [Act.put, List.setIfInBounds_toArray, List.set_cons_zero, List.set_cons_succ, zj, zo]
          rfl
        refine yc (i := 6) (N := some 27) #[true, true, true, true, true, true, true, false, false] rfl rfl (jN HT_.out (by kernel_rfl)) (by decide) (fun K hK => ?_)
        refine yf Try.func54 (by kernel_rfl) rfl #[.slice Ao36 t344.length co36, .slice A1 l1.length c1] (by rfl) rfl rfl sqM ?_
        with_reducible refine (zq.calls k _ _ t344 _ _ l1 false _ ?side1 ?side2 ?side3 ?side4 A9.out).mono ?_
        (case side1 => exact sqC (Kd.zh HO346.out).2.2)
        (case side2 => exact (Kd.zh HO346.out).2.1)
        (case side3 => exact sqC (Kd.zp HR1.out HB.out))
        (case side4 => exact HC1.out)
        rintro e w' ⟨rfl, ⟨nd, rfl⟩⟩
        refine ⟨_, rfl, ?_⟩
        refine hK.out _ _ ⟨(zb BK343.out 0).trans rfl, (zb BK343.out 1).trans rfl, (zb (ze BKl.out HB.out) 0).trans rfl⟩ (fun hHeld => ?_)
        clear hK K
        refine vm (a' := ?_) ?_ ?_
        rotate_left
        · show Act.put _ (some 27) _ = _
          simp only [Act.put, List.setIfInBounds_toArray, List.set_cons_zero, List.set_cons_succ, zj, zo]
          rfl
        refine zJ (i := 7) (N := some 28) (v := ?_) (a' := ?_) #[true, true, true, true, true, true, true, true, false] rfl rfl (zx HT_.out (by kernel_rfl)) (fun _ _ _ h => h) (Or.inl ⟨by rfl, ?_⟩) ?_ ?_
        rotate_left
        · intro w'
          go_simp
          with_reducible rfl
        rotate_left
        · simp only [Act.put, List.setIfInBounds_toArray, List.set_cons_zero, List.set_cons_succ, zj, zo]
          rfl
        refine zJ (i := 8) (N := some 29) (v := ?_) (a' := ?_) #[true, true, true, true, true, true, true, true, true] rfl rfl (zx HT_.out (by kernel_rfl)) (fun _ _ _ h => h) (Or.inl ⟨by rfl, ?_⟩) ?_ ?_
        rotate_left
        · intro w'
          go_simp
          with_reducible rfl
        rotate_left
        · simp only [Act.put, List.setIfInBounds_toArray, List.set_cons_zero, List.set_cons_succ, zj, zo]
          rfl
        refine vu (jC HT_.out (by kernel_rfl)) ?_
        have hcz37_0 : w35.cell? ⟨gb333, 0, none⟩ = some (.int .i64 0) := (zb BK333.out 0).trans rfl
        have hcz37_1 : w35.cell? ⟨gb333, 1, none⟩ = some (.slice none 0 0) := (zb BK333.out 1).trans rfl
        have hfz37_0 := za BK333.out 0
        have hfz37_1 := za BK333.out 1
        (try clear hcl)
        have hcl : World.cell? _ ⟨gl, 0, none⟩ = some (.slice A1 l1.length c1) := (zb (ze BKl.out HB.out) 0).trans rfl
        try go_wp2
        refine bodyPost_ret (qG rfl _ _ gb333 27 #[.int .i64 0, .slice none 0 0] (0, 0) _ rfl (by refine sqK ?_; refine zB (cs := #[.int .i64 0, .slice none 0 0]) ?_ 1 _ rfl; refine sqK ?_; refine zB (cs := #[.int .i64 0, .slice none 0 0]) ?_ 0 _ rfl; refine sqK ?_; exact BK333.out) Try.underlying27 rfl (by kernel_rfl)) rfl ?_
        exact ⟨_, sqE, Kd.zD (base := wl.heap.size) (sqN) (zg HBl.out), zc HBl.out sqB⟩
    · replace c7 := Bool.eq_false_iff.mpr c7
      subst c7
      have H1 : (some (0, ([] : List Int), false)) = some (r1, r2, r3) := by rw [if_neg (show ¬ (false = true) by decide)] at H; exact H
      clear H
      have H := H1
      clear H1
      simp only [Option.some.injEq, Prod.mk.injEq] at H
      obtain ⟨rfl, rfl, rfl⟩ := H
      go_enter Try.func72, Try.ntmps72
      go_wp2_with (first
        | ((with_reducible refine zi (N := 3) rfl ?_); refine zl ?hg (N := 3) ?hd (cs := #[.slice A1 l1.length c1]) (t := 22) ?hr ?_; (case hd => rfl); (case hg => rfl); (case hr => exact sqG); intro gl hg wl hbox hb; have HBl := Aside0.mk hb; have BKl := Aside0.mk hbox; have nr_ := Aside0.mk (Kd.zp HR1.out hb); clear HR1 HB; have HR1 := nr_; clear nr_; have HB := Aside0.mk (Below.refl wl.heap.size wl); have hcl : wl.cell? ⟨gl, 0, none⟩ = some (.slice A1 l1.length c1) := (zb BKl.out 0).trans rfl; clear hb hbox hg)
        | ((with_reducible refine zi (N := 4) rfl ?_); refine zl ?hg (N := 4) ?hd (cs := #[.int .i64 0, .slice none 0 0]) (t := 27) ?hr ?_; (case hd => rfl); (case hg => rfl); (case hr => exact sqG); intro gb333 hg w38 hbox hb; have n0_ := Aside0.mk (zc sqB hb); have n1_ := Aside0.mk (hbox); have n2_ := Aside0.mk ((sqS hg : wl.heap.size ≤ gb333)); have n3_ := Aside0.mk ((sqS hg : wl.heap.size ≤ gb333)); clear HB; have HB := n0_; have BK333 := n1_; have GW333 := n2_; have GE333 := n3_; clear n0_ n1_ n2_ n3_; clear hb hbox hg; (try clear hcl); have hcl : World.cell? _ ⟨gl, 0, none⟩ = some (.slice A1 l1.length c1) := (zb (ze BKl.out HB.out) 0).trans rfl)
        | ((with_reducible refine zd (f := 52) rfl ?_); refine zn (some 10) rfl rfl Try.func52 (by kernel_rfl) rfl #[.int .i64 a0, .slice A1 l1.length c1] rfl sqM ?_; (with_reducible refine (zE.calls k a0 _ _ l1 true _ ?side1 ?side2 A3.out).mono ?_); (case side1 => exact sqC (Kd.zp HR1.out HB.out)); (case side2 => exact HC1.out); rintro e w' ⟨rfl, ⟨nd, rfl⟩⟩; refine ⟨_, rfl, ?_⟩; (try (rw [qz w38]; generalize hq_ : World.drewN w38 _ = w38; have n0_ : Aside0 (w38.heap[gb333]? = some (.cells #[.int .i64 0, .slice none 0 0] 27 (0, 0))) := ⟨by rw [← hq_]; exact (sqK BK333.out)⟩; have n1_ : Aside0 (Below wl.heap.size wl w38) := ⟨by rw [← hq_]; exact sqB⟩; clear BK333 HB hq_; have BK333 := n0_; have HB := n1_; clear n0_ n1_; have hczqgb333_0 : w38.cell? ⟨gb333, 0, none⟩ = some (.int .i64 0) := (zb BK333.out 0).trans rfl; have hfzqgb333_0 := za BK333.out 0; have hczqgb333_1 : w38.cell? ⟨gb333, 1, none⟩ = some (.slice none 0 0) := (zb BK333.out 1).trans rfl; have hfzqgb333_1 := za BK333.out 1)); (try clear hcl); have hcl : World.cell? _ ⟨gl, 0, none⟩ = some (.slice A1 l1.length c1) := (zb (ze BKl.out HB.out) 0).trans rfl)
        | ((with_reducible refine zd (f := 53) rfl ?_); refine zn (some 18) rfl rfl Try.func53 (by kernel_rfl) rfl #[.int .i64 a0, .slice Ao40 t335.length co40] rfl sqM ?_; (with_reducible refine (zS.calls k a0 _ _ t335 t338 t339 false _ ?side1 ?side2 A6.out).mono ?_); (case side1 => exact sqC (Kd.zh HO337.out).2.2); (case side2 => exact (Kd.zh HO337.out).2.1); rintro e w41 ⟨v340, rfl, ho0, hb⟩; refine ⟨_, rfl, ?_⟩; have n0_ := Aside0.mk (Kd.zU (sqR HO337.out) (Kd.qt ho0) hb); have n1_ := Aside0.mk (Kd.zD (Kd.qu ho0 (Kd.jd (sqR HO337.out))) (zg sqB)); have n2_ := Aside0.mk (ze (g := gb333) (o := .cells #[.int .i64 0, .slice none 0 0] 27 (0, 0)) (sqK BK333.out) hb); have n3_ := Aside0.mk (zc sqB hb); clear HO337; clear BK333; clear HB; have HO337 := n0_; have HO341 := n1_; have BK333 := n2_; have HB := n3_; clear n0_ n1_ n2_ n3_; (try clear hb); (try clear hb2); (try clear hk); (try clear hi); (try clear ho0); (try clear hcl); have hcl : World.cell? _ ⟨gl, 0, none⟩ = some (.slice A1 l1.length c1) := (zb (ze BKl.out HB.out) 0).trans rfl)
        | ((with_reducible refine zi (N := 6) rfl ?_); refine zl ?hg (N := 6) ?hd (cs := #[.int .i64 0, .slice none 0 0]) (t := 27) ?hr ?_; (case hd => rfl); (case hg => rfl); (case hr => exact sqG); intro gb343 hg w42 hbox hb; have n0_ := Aside0.mk (Kd.zz (sqR HO337.out) hb); have n1_ := Aside0.mk (Kd.zz (sqR HO341.out) hb); have n2_ := Aside0.mk (ze (g := gb333) (o := .cells #[.int .i64 0, .slice none 0 0] 27 (0, 0)) (sqK BK333.out) hb); have n3_ := Aside0.mk (zc sqB hb); have n4_ := Aside0.mk (hbox); have n5_ := Aside0.mk ((sqS hg : wl.heap.size ≤ gb343)); have n6_ := Aside0.mk ((sqS hg : wl.heap.size ≤ gb343)); have n7_ := Aside0.mk ((by rw [hg]; exact Nat.ne_of_lt (zV (g := gb333) (o := .cells #[.int .i64 0, .slice none 0 0] 27 (0, 0)) (sqK BK333.out)) : gb333 ≠ gb343)); have n8_ := Aside0.mk ((by rw [hg]; exact Nat.ne_of_gt (zV (g := gb333) (o := .cells #[.int .i64 0, .slice none 0 0] 27 (0, 0)) (sqK BK333.out)) : gb343 ≠ gb333)); clear HO337; clear HO341; clear BK333; clear HB; have HO337 := n0_; have HO341 := n1_; have BK333 := n2_; have HB := n3_; have BK343 := n4_; have GW343 := n5_; have GE343 := n6_; have NB333_343 := n7_; have NB343_333 := n8_; clear n0_ n1_ n2_ n3_ n4_ n5_ n6_ n7_ n8_; clear hb hbox hg; have hnb43 := NB343_333.out; have hnc43 := NB333_343.out; have hcz44_0 : w42.cell? ⟨gb343, 0, none⟩ = some (.int .i64 0) := (zb BK343.out 0).trans rfl; have hcz44_1 : w42.cell? ⟨gb343, 1, none⟩ = some (.slice none 0 0) := (zb BK343.out 1).trans rfl; have hfz44_0 := za BK343.out 0; have hfz44_1 := za BK343.out 1; obtain ⟨Ao45, co45, eo45⟩ := Kd.zR HO341.out; subst eo45; (try clear hcl); have hcl : World.cell? _ ⟨gl, 0, none⟩ = some (.slice A1 l1.length c1) := (zb (ze BKl.out HB.out) 0).trans rfl))
      refine (vr (zM.q l1) _ _ (enters_of Try.func103 (by kernel_rfl) rfl) k a0 t335 _ (zM.pred l1 _ c1 gl _ (ze BKl.out sqB) (Kd.zp HR1.out sqB) HC1.out) A5.out).mono ?_
      rintro e w39 ⟨v336, rfl, ho0, hb⟩
      have n0_ := Aside0.mk (Kd.zD ho0 (zg sqB))
      have n1_ := Aside0.mk (ze (g := gb333) (o := .cells #[.int .i64 0, .slice none 0 0] 27 (0, 0)) (sqK BK333.out) hb)
      have n2_ := Aside0.mk (zc sqB hb)
      clear BK333
      clear HB
      have HO337 := n0_
      have BK333 := n1_
      have HB := n2_
      clear n0_ n1_ n2_
      (try clear hb)
      (try clear hb2)
      (try clear hk)
      (try clear hi)
      (try clear ho0)
      obtain ⟨Ao40, co40, eo40⟩ := Kd.zR HO337.out
      subst eo40
      (try clear hcl)
      have hcl : World.cell? _ ⟨gl, 0, none⟩ = some (.slice A1 l1.length c1) := (zb (ze BKl.out HB.out) 0).trans rfl
      go_wp2_with (first
        | ((with_reducible refine zi (N := 4) rfl ?_); refine zl ?hg (N := 4) ?hd (cs := #[.int .i64 0, .slice none 0 0]) (t := 27) ?hr ?_; (case hd => rfl); (case hg => rfl); (case hr => exact sqG); intro gb333 hg w38 hbox hb; have n0_ := Aside0.mk (zc sqB hb); have n1_ := Aside0.mk (hbox); have n2_ := Aside0.mk ((sqS hg : wl.heap.size ≤ gb333)); have n3_ := Aside0.mk ((sqS hg : wl.heap.size ≤ gb333)); clear HB; have HB := n0_; have BK333 := n1_; have GW333 := n2_; have GE333 := n3_; clear n0_ n1_ n2_ n3_; clear hb hbox hg; (try clear hcl); have hcl : World.cell? _ ⟨gl, 0, none⟩ = some (.slice A1 l1.length c1) := (zb (ze BKl.out HB.out) 0).trans rfl)
        | ((with_reducible refine zd (f := 52) rfl ?_); refine zn (some 10) rfl rfl Try.func52 (by kernel_rfl) rfl #[.int .i64 a0, .slice A1 l1.length c1] rfl sqM ?_; (with_reducible refine (zE.calls k a0 _ _ l1 true _ ?side1 ?side2 A3.out).mono ?_); (case side1 => exact sqC (Kd.zp HR1.out HB.out)); (case side2 => exact HC1.out); rintro e w' ⟨rfl, ⟨nd, rfl⟩⟩; refine ⟨_, rfl, ?_⟩; (try (rw [qz w38]; generalize hq_ : World.drewN w38 _ = w38; have n0_ : Aside0 (w38.heap[gb333]? = some (.cells #[.int .i64 0, .slice none 0 0] 27 (0, 0))) := ⟨by rw [← hq_]; exact (sqK BK333.out)⟩; have n1_ : Aside0 (Below wl.heap.size wl w38) := ⟨by rw [← hq_]; exact sqB⟩; clear BK333 HB hq_; have BK333 := n0_; have HB := n1_; clear n0_ n1_; have hczqgb333_0 : w38.cell? ⟨gb333, 0, none⟩ = some (.int .i64 0) := (zb BK333.out 0).trans rfl; have hfzqgb333_0 := za BK333.out 0; have hczqgb333_1 : w38.cell? ⟨gb333, 1, none⟩ = some (.slice none 0 0) := (zb BK333.out 1).trans rfl; have hfzqgb333_1 := za BK333.out 1)); (try clear hcl); have hcl : World.cell? _ ⟨gl, 0, none⟩ = some (.slice A1 l1.length c1) := (zb (ze BKl.out HB.out) 0).trans rfl)
        | ((with_reducible refine zd (f := 53) rfl ?_); refine zn (some 18) rfl rfl Try.func53 (by kernel_rfl) rfl #[.int .i64 a0, .slice Ao40 t335.length co40] rfl sqM ?_; (with_reducible refine (zS.calls k a0 _ _ t335 t338 t339 false _ ?side1 ?side2 A6.out).mono ?_); (case side1 => exact sqC (Kd.zh HO337.out).2.2); (case side2 => exact (Kd.zh HO337.out).2.1); rintro e w41 ⟨v340, rfl, ho0, hb⟩; refine ⟨_, rfl, ?_⟩; have n0_ := Aside0.mk (Kd.zU (sqR HO337.out) (Kd.qt ho0) hb); have n1_ := Aside0.mk (Kd.zD (Kd.qu ho0 (Kd.jd (sqR HO337.out))) (zg sqB)); have n2_ := Aside0.mk (ze (g := gb333) (o := .cells #[.int .i64 0, .slice none 0 0] 27 (0, 0)) (sqK BK333.out) hb); have n3_ := Aside0.mk (zc sqB hb); clear HO337; clear BK333; clear HB; have HO337 := n0_; have HO341 := n1_; have BK333 := n2_; have HB := n3_; clear n0_ n1_ n2_ n3_; (try clear hb); (try clear hb2); (try clear hk); (try clear hi); (try clear ho0); (try clear hcl); have hcl : World.cell? _ ⟨gl, 0, none⟩ = some (.slice A1 l1.length c1) := (zb (ze BKl.out HB.out) 0).trans rfl)
        | ((with_reducible refine zi (N := 6) rfl ?_); refine zl ?hg (N := 6) ?hd (cs := #[.int .i64 0, .slice none 0 0]) (t := 27) ?hr ?_; (case hd => rfl); (case hg => rfl); (case hr => exact sqG); intro gb343 hg w42 hbox hb; have n0_ := Aside0.mk (Kd.zz (sqR HO337.out) hb); have n1_ := Aside0.mk (Kd.zz (sqR HO341.out) hb); have n2_ := Aside0.mk (ze (g := gb333) (o := .cells #[.int .i64 0, .slice none 0 0] 27 (0, 0)) (sqK BK333.out) hb); have n3_ := Aside0.mk (zc sqB hb); have n4_ := Aside0.mk (hbox); have n5_ := Aside0.mk ((sqS hg : wl.heap.size ≤ gb343)); have n6_ := Aside0.mk ((sqS hg : wl.heap.size ≤ gb343)); have n7_ := Aside0.mk ((by rw [hg]; exact Nat.ne_of_lt (zV (g := gb333) (o := .cells #[.int .i64 0, .slice none 0 0] 27 (0, 0)) (sqK BK333.out)) : gb333 ≠ gb343)); have n8_ := Aside0.mk ((by rw [hg]; exact Nat.ne_of_gt (zV (g := gb333) (o := .cells #[.int .i64 0, .slice none 0 0] 27 (0, 0)) (sqK BK333.out)) : gb343 ≠ gb333)); clear HO337; clear HO341; clear BK333; clear HB; have HO337 := n0_; have HO341 := n1_; have BK333 := n2_; have HB := n3_; have BK343 := n4_; have GW343 := n5_; have GE343 := n6_; have NB333_343 := n7_; have NB343_333 := n8_; clear n0_ n1_ n2_ n3_ n4_ n5_ n6_ n7_ n8_; clear hb hbox hg; have hnb43 := NB343_333.out; have hnc43 := NB333_343.out; have hcz44_0 : w42.cell? ⟨gb343, 0, none⟩ = some (.int .i64 0) := (zb BK343.out 0).trans rfl; have hcz44_1 : w42.cell? ⟨gb343, 1, none⟩ = some (.slice none 0 0) := (zb BK343.out 1).trans rfl; have hfz44_0 := za BK343.out 0; have hfz44_1 := za BK343.out 1; obtain ⟨Ao45, co45, eo45⟩ := Kd.zR HO341.out; subst eo45; (try clear hcl); have hcl : World.cell? _ ⟨gl, 0, none⟩ = some (.slice A1 l1.length c1) := (zb (ze BKl.out HB.out) 0).trans rfl))
      have n0_ : Aside0 (Kd.R (Kd.int .i64) 3 ((w42.setCell ⟨gb343, 0, none⟩ (.int .i64 t338)).setCell ⟨gb343, 1, none⟩ (.slice Ao45 t339.length co45)) wl.heap.size (fun k_ => some k_ ≠ (.slice Ao45 t339.length co45 : Value).ownBlock) (.slice Ao40 t335.length co40) t335) := ⟨by refine sqR ?_; exact Kd.zu (Kd.zC (p := ⟨gb343, 1, none⟩) (Kd.zC (p := ⟨gb343, 0, none⟩) (Kd.zK HO337.out BK343.out (by decide)) (fun _ hk => hk.2) (.int .i64 t338)) (fun _ hk => hk.2) (.slice Ao45 t339.length co45)) (fun _ hk => hk.1.2)⟩
      have n1_ : Aside0 (Kd.R (Kd.int .i64) 3 ((w42.setCell ⟨gb343, 0, none⟩ (.int .i64 t338)).setCell ⟨gb343, 1, none⟩ (.slice Ao45 t339.length co45)) wl.heap.size (fun k_ => some k_ ≠ (.slice Ao40 t335.length co40 : Value).ownBlock) (.slice Ao45 t339.length co45) t339) := ⟨by refine sqR ?_; exact Kd.zu (Kd.zC (p := ⟨gb343, 1, none⟩) (Kd.zC (p := ⟨gb343, 0, none⟩) (Kd.zK HO341.out BK343.out (by decide)) (fun _ hk => hk.2) (.int .i64 t338)) (fun _ hk => hk.2) (.slice Ao45 t339.length co45)) (fun _ hk => hk.1.2)⟩
      have n2_ : Aside0 (((w42.setCell ⟨gb343, 0, none⟩ (.int .i64 t338)).setCell ⟨gb343, 1, none⟩ (.slice Ao45 t339.length co45)).heap[gb333]? = some (.cells #[.int .i64 0, .slice none 0 0] 27 (0, 0))) := ⟨by refine sqK ?_; refine qk ?_ NB333_343.out _; refine sqK ?_; refine qk ?_ NB333_343.out _; refine sqK ?_; exact BK333.out⟩
      have n3_ : Aside0 (((w42.setCell ⟨gb343, 0, none⟩ (.int .i64 t338)).setCell ⟨gb343, 1, none⟩ (.slice Ao45 t339.length co45)).heap[gb343]? = some (.cells #[.int .i64 t338, .slice Ao45 t339.length co45] 27 (0, 0))) := ⟨by refine sqK ?_; refine zB (cs := #[.int .i64 t338, .slice none 0 0]) ?_ 1 _ rfl; refine sqK ?_; refine zB (cs := #[.int .i64 0, .slice none 0 0]) ?_ 0 _ rfl; refine sqK ?_; exact BK343.out⟩
      have n4_ : Aside0 (Below wl.heap.size wl ((w42.setCell ⟨gb343, 0, none⟩ (.int .i64 t338)).setCell ⟨gb343, 1, none⟩ (.slice Ao45 t339.length co45))) := ⟨sqB⟩
      (try clear HO337)
      (try clear HO341)
      (try clear BK333)
      (try clear BK343)
      (try clear HB)
      generalize ((w42.setCell ⟨gb343, 0, none⟩ (.int .i64 t338)).setCell ⟨gb343, 1, none⟩ (.slice Ao45 t339.length co45)) = w46 at n0_ n1_ n2_ n3_ n4_ ⊢
      have HO337 := n0_
      have HO341 := n1_
      have BK333 := n2_
      have BK343 := n3_
      have HB := n4_
      clear n0_ n1_ n2_ n3_ n4_
      have n0_ := Aside0.mk (Kd.jM HO337.out)
      have n1_ := Aside0.mk (Kd.jM HO341.out)
      have n2_ := Aside0.mk (jl BK333.out)
      have n3_ := Aside0.mk (jl BK343.out)
      have n4_ := Aside0.mk (qi HB.out)
      clear HO337
      clear HO341
      clear BK333
      clear BK343
      clear HB
      have HO337 := n0_
      have HO341 := n1_
      have BK333 := n2_
      have BK343 := n3_
      have HB := n4_
      clear n0_ n1_ n2_ n3_ n4_
      refine jS (n := 9) (S := fun w' => True) (ds := []) #[false, false, false, false, false, false, false, false, false] (by kernel_rfl) rfl rfl trivial (fun hHeld => ?_); refine jg zX.zbe zX.zaz (fun HT_ HW_ => ?_)
      generalize w46.drew = w47 at HO337 HO341 BK333 BK343 HB hHeld ⊢
      refine zJ (i := 0) (N := some 21) (v := ?_) (a' := ?_) #[true, false, false, false, false, false, false, false, false] rfl rfl (zx HT_.out (by kernel_rfl)) (fun _ _ _ h => h) (Or.inl ⟨by rfl, ?_⟩) ?_ ?_
      rotate_left
      · intro w'
        go_simp
        with_reducible rfl
      rotate_left
      · simp only [Act.put, List.setIfInBounds_toArray, List.set_cons_zero, List.set_cons_succ, zj, zo]
        rfl
      refine zJ (i := 1) (N := some 22) (v := ?_) (a' := ?_) #[true, true, false, false, false, false, false, false, false] rfl rfl (zx HT_.out (by kernel_rfl)) (fun _ _ _ h => h) (Or.inl ⟨by rfl, ?_⟩) ?_ ?_
      rotate_left
      · intro w'
        go_simp
        with_reducible rfl
      rotate_left
      · simp only [Act.put, List.setIfInBounds_toArray, List.set_cons_zero, List.set_cons_succ, zj, zo]
        rfl
      refine zJ (i := 2) (N := some 23) (v := ?_) (a' := ?_) #[true, true, true, false, false, false, false, false, false] rfl rfl (zx HT_.out (by kernel_rfl)) (fun _ _ _ h => h) (Or.inl ⟨by rfl, ?_⟩) ?_ ?_
      rotate_left
      · intro w'
        go_simp
        with_reducible rfl
      rotate_left
      · simp only [Act.put, List.setIfInBounds_toArray, List.set_cons_zero, List.set_cons_succ, zj, zo]
        rfl
      refine zJ (i := 3) (N := some 24) (v := undef) (a' := ?_) #[true, true, true, true, false, false, false, false, false] rfl rfl (zx HT_.out (by kernel_rfl)) (fun _ _ _ h => h) (Or.inr ⟨by rfl, rfl⟩) ?_ ?_
      rotate_left
      · simp only [Act.put, List.setIfInBounds_toArray, List.set_cons_zero, List.set_cons_succ, zj, zo]
        rfl
      refine zJ (i := 4) (N := some 25) (v := undef) (a' := ?_) #[true, true, true, true, true, false, false, false, false] rfl rfl (zx HT_.out (by kernel_rfl)) (fun _ _ _ h => h) (Or.inr ⟨by rfl, rfl⟩) ?_ ?_
      rotate_left
      · simp only [Act.put, List.setIfInBounds_toArray, List.set_cons_zero, List.set_cons_succ, zj, zo]
        rfl
      refine zJ (i := 5) (N := some 26) (v := undef) (a' := ?_) #[true, true, true, true, true, true, false, false, false] rfl rfl (zx HT_.out (by kernel_rfl)) (fun _ _ _ h => h) (Or.inr ⟨by rfl, rfl⟩) ?_ ?_
      rotate_left
      · simp only [Act.put, List.setIfInBounds_toArray, List.set_cons_zero, List.set_cons_succ, zj, zo]
        rfl
      refine zJ (i := 6) (N := some 27) (v := undef) (a' := ?_) #[true, true, true, true, true, true, true, false, false] rfl rfl (zx HT_.out (by kernel_rfl)) (fun _ _ _ h => h) (Or.inr ⟨by rfl, rfl⟩) ?_ ?_
      rotate_left
      · simp only [Act.put, List.setIfInBounds_toArray, List.set_cons_zero, List.set_cons_succ, zj, zo]
        rfl
      refine zJ (i := 7) (N := some 28) (v := undef) (a' := ?_) #[true, true, true, true, true, true, true, true, false] rfl rfl (zx HT_.out (by kernel_rfl)) (fun _ _ _ h => h) (Or.inr ⟨by rfl, rfl⟩) ?_ ?_
      rotate_left
      · simp only [Act.put, List.setIfInBounds_toArray, List.set_cons_zero, List.set_cons_succ, zj, zo]
        rfl
      refine zJ (i := 8) (N := some 29) (v := ?_) (a' := ?_) #[true, true, true, true, true, true, true, true, true] rfl rfl (zx HT_.out (by kernel_rfl)) (fun _ _ _ h => h) (Or.inl ⟨by rfl, ?_⟩) ?_ ?_
      rotate_left
      · intro w'
        go_simp
        with_reducible rfl
      rotate_left
      · simp only [Act.put, List.setIfInBounds_toArray, List.set_cons_zero, List.set_cons_succ, zj, zo]
        rfl
      refine vu (jC HT_.out (by kernel_rfl)) ?_
      have hcz48_0 : w47.cell? ⟨gb333, 0, none⟩ = some (.int .i64 0) := (zb BK333.out 0).trans rfl
      have hcz48_1 : w47.cell? ⟨gb333, 1, none⟩ = some (.slice none 0 0) := (zb BK333.out 1).trans rfl
      have hfz48_0 := za BK333.out 0
      have hfz48_1 := za BK333.out 1
      (try clear hcl)
      have hcl : World.cell? _ ⟨gl, 0, none⟩ = some (.slice A1 l1.length c1) := (zb (ze BKl.out HB.out) 0).trans rfl
      try go_wp2
      refine bodyPost_ret (qG rfl _ _ gb333 27 #[.int .i64 0, .slice none 0 0] (0, 0) _ rfl (by refine sqK ?_; refine zB (cs := #[.int .i64 0, .slice none 0 0]) ?_ 1 _ rfl; refine sqK ?_; refine zB (cs := #[.int .i64 0, .slice none 0 0]) ?_ 0 _ rfl; refine sqK ?_; exact BK333.out) Try.underlying27 rfl (by kernel_rfl)) rfl ?_
      exact ⟨_, sqE, Kd.zD (base := wl.heap.size) (sqN) (zg HBl.out), zc HBl.out sqB⟩
  · replace c4 := Bool.eq_false_iff.mpr c4
    subst c4
    have H1 : (some (0, ([] : List Int), false)) = some (r1, r2, r3) := by rw [if_neg (show ¬ (false = true) by decide)] at H; exact H
    clear H
    have H := H1
    clear H1
    simp only [Option.some.injEq, Prod.mk.injEq] at H
    obtain ⟨rfl, rfl, rfl⟩ := H
    go_enter Try.func72, Try.ntmps72
    go_wp2_with (first
      | ((with_reducible refine zi (N := 3) rfl ?_); refine zl ?hg (N := 3) ?hd (cs := #[.slice A1 l1.length c1]) (t := 22) ?hr ?_; (case hd => rfl); (case hg => rfl); (case hr => exact sqG); intro gl hg wl hbox hb; have HBl := Aside0.mk hb; have BKl := Aside0.mk hbox; have nr_ := Aside0.mk (Kd.zp HR1.out hb); clear HR1 HB; have HR1 := nr_; clear nr_; have HB := Aside0.mk (Below.refl wl.heap.size wl); have hcl : wl.cell? ⟨gl, 0, none⟩ = some (.slice A1 l1.length c1) := (zb BKl.out 0).trans rfl; clear hb hbox hg)
      | ((with_reducible refine zi (N := 4) rfl ?_); refine zl ?hg (N := 4) ?hd (cs := #[.int .i64 0, .slice none 0 0]) (t := 27) ?hr ?_; (case hd => rfl); (case hg => rfl); (case hr => exact sqG); intro gb333 hg w49 hbox hb; have n0_ := Aside0.mk (zc sqB hb); have n1_ := Aside0.mk (hbox); have n2_ := Aside0.mk ((sqS hg : wl.heap.size ≤ gb333)); have n3_ := Aside0.mk ((sqS hg : wl.heap.size ≤ gb333)); clear HB; have HB := n0_; have BK333 := n1_; have GW333 := n2_; have GE333 := n3_; clear n0_ n1_ n2_ n3_; clear hb hbox hg; (try clear hcl); have hcl : World.cell? _ ⟨gl, 0, none⟩ = some (.slice A1 l1.length c1) := (zb (ze BKl.out HB.out) 0).trans rfl)
      | ((with_reducible refine zd (f := 52) rfl ?_); refine zn (some 10) rfl rfl Try.func52 (by kernel_rfl) rfl #[.int .i64 a0, .slice A1 l1.length c1] rfl sqM ?_; (with_reducible refine (zE.calls k a0 _ _ l1 false _ ?side1 ?side2 A3.out).mono ?_); (case side1 => exact sqC (Kd.zp HR1.out HB.out)); (case side2 => exact HC1.out); rintro e w' ⟨rfl, ⟨nd, rfl⟩⟩; refine ⟨_, rfl, ?_⟩; (try (rw [qz w49]; generalize hq_ : World.drewN w49 _ = w49; have n0_ : Aside0 (w49.heap[gb333]? = some (.cells #[.int .i64 0, .slice none 0 0] 27 (0, 0))) := ⟨by rw [← hq_]; exact (sqK BK333.out)⟩; have n1_ : Aside0 (Below wl.heap.size wl w49) := ⟨by rw [← hq_]; exact sqB⟩; clear BK333 HB hq_; have BK333 := n0_; have HB := n1_; clear n0_ n1_; have hczqgb333_0 : w49.cell? ⟨gb333, 0, none⟩ = some (.int .i64 0) := (zb BK333.out 0).trans rfl; have hfzqgb333_0 := za BK333.out 0; have hczqgb333_1 : w49.cell? ⟨gb333, 1, none⟩ = some (.slice none 0 0) := (zb BK333.out 1).trans rfl; have hfzqgb333_1 := za BK333.out 1)); have hcz50_0 : w49.cell? ⟨gb333, 0, none⟩ = some (.int .i64 0) := (zb BK333.out 0).trans rfl; have hcz50_1 : w49.cell? ⟨gb333, 1, none⟩ = some (.slice none 0 0) := (zb BK333.out 1).trans rfl; have hfz50_0 := za BK333.out 0; have hfz50_1 := za BK333.out 1; (try clear hcl); have hcl : World.cell? _ ⟨gl, 0, none⟩ = some (.slice A1 l1.length c1) := (zb (ze BKl.out HB.out) 0).trans rfl))
    refine bodyPost_ret (qG rfl _ _ gb333 27 #[.int .i64 0, .slice none 0 0] (0, 0) _ rfl (by refine sqK ?_; refine zB (cs := #[.int .i64 0, .slice none 0 0]) ?_ 1 _ rfl; refine sqK ?_; refine zB (cs := #[.int .i64 0, .slice none 0 0]) ?_ 0 _ rfl; refine sqK ?_; exact BK333.out) Try.underlying27 rfl (by kernel_rfl)) rfl ?_
    exact ⟨_, sqE, Kd.zD (base := wl.heap.size) (sqN) (zg HBl.out), zc HBl.out sqB⟩
end Go.Proofs.Yteggmbhcnhbamaa.F
end
section
namespace Go.Proofs.Yteggmbhcnhbamaa.F
open Go.RowKit Go.Proofs.YteggmbhcnhbamaaW.PrintWords Go.Proofs.YteggmbhcnhbamaaW.PrintLast Go.Proofs.YteggmbhcnhbamaaW.PrintMore
attribute [local go_sem] qJ qM q2 q4 qy qx qL qK   -- for this text's walks alone
set_option linter.unusedVariables false
set_option linter.unusedSimpArgs false

def qj.f (k : Nat) (a0 : Int) (l1 : List Int) : Option (Int × List Int × Bool) := (zE.f k a0 l1).bind fun t817 => (if t817 = true then ((zG.f k a0 l1).bind fun t818 => ((zX.f k a0 t818).bind fun bt821 => ((qF.f k bt821.1 bt821.2.1).bind fun bt827 => (if bt821.2.2 = true then ((qP.f k bt827.1 bt827.2).bind fun t832 => ((zq.f k t832 l1).bind fun t835 => (if t835 = true then (some (bt827.1, bt827.2, true)) else (some (0, ([] : List Int), false))))) else (some (0, ([] : List Int), false)))))) else (some (0, ([] : List Int), false)))
theorem qj.calls (k : Nat) (a0 : Int) (A1 : Option Addr) (c1 : Nat) (l1 : List Int) (r1 : Int) (r2 : List Int) (r3 : Bool) (w : World) (hr1 : Kd.C (Kd.int .i64) w A1 l1.length l1) (hc1 : l1.length ≤ c1) (h : qj.f k a0 l1 = some (r1, r2, r3)) :
  Calls Try.prog 35 #[.int .i64 a0, .slice A1 l1.length c1] w fun e w' => ∃ v1_ : Value, e = .returned (.tuple #[.agg #[.int .i64 r1, v1_], .bool r3]) ∧ Kd.R (Kd.int .i64) 3 w' w.heap.size (fun _ => True) v1_ r2 ∧ Below w.heap.size w w' := by
 have hu27 := Try.underlying27
 have HR1 := Aside0.mk hr1
 have HC1 := Aside0.mk hc1
 clear hr1 hc1
 have HB := Aside0.mk (Below.refl w.heap.size w)
 have H : ((zE.f k a0 l1).bind fun t817 => (if t817 = true then ((zG.f k a0 l1).bind fun t818 => ((zX.f k a0 t818).bind fun bt821 => ((qF.f k bt821.1 bt821.2.1).bind fun bt827 => (if bt821.2.2 = true then ((qP.f k bt827.1 bt827.2).bind fun t832 => ((zq.f k t832 l1).bind fun t835 => (if t835 = true then (some (bt827.1, bt827.2, true)) else (some (0, ([] : List Int), false))))) else (some (0, ([] : List Int), false)))))) else (some (0, ([] : List Int), false)))) = some (r1, r2, r3) := h
 clear h
 replace H := Option.bind_eq_some_iff.mp H
 obtain ⟨t817, A30, H⟩ := H
 replace H : (if t817 = true then ((zG.f k a0 l1).bind fun t818 => ((zX.f k a0 t818).bind fun bt821 => ((qF.f k bt821.1 bt821.2.1).bind fun bt827 => (if bt821.2.2 = true then ((qP.f k bt827.1 bt827.2).bind fun t832 => ((zq.f k t832 l1).bind fun t835 => (if t835 = true then (some (bt827.1, bt827.2, true)) else (some (0, ([] : List Int), false))))) else (some (0, ([] : List Int), false)))))) else (some (0, ([] : List Int), false))) = some (r1, r2, r3) := H
 have A3 := Aside0.mk A30
 clear A30
 by_cases c4 : t817 = true
 ·subst c4
  have H1 : ((zG.f k a0 l1).bind fun t818 => ((zX.f k a0 t818).bind fun bt821 => ((qF.f k bt821.1 bt821.2.1).bind fun bt827 => (if bt821.2.2 = true then ((qP.f k bt827.1 bt827.2).bind fun t832 => ((zq.f k t832 l1).bind fun t835 => (if t835 = true then (some (bt827.1, bt827.2, true)) else (some (0, ([] : List Int), false))))) else (some (0, ([] : List Int), false)))))) = some (r1, r2, r3) := by rw [if_pos rfl] at H; exact H
  clear H
  have H := H1
  clear H1
  replace H := Option.bind_eq_some_iff.mp H
  obtain ⟨t818, A50, H⟩ := H
  replace H : ((zX.f k a0 t818).bind fun bt821 => ((qF.f k bt821.1 bt821.2.1).bind fun bt827 => (if bt821.2.2 = true then ((qP.f k bt827.1 bt827.2).bind fun t832 => ((zq.f k t832 l1).bind fun t835 => (if t835 = true then (some (bt827.1, bt827.2, true)) else (some (0, ([] : List Int), false))))) else (some (0, ([] : List Int), false))))) = some (r1, r2, r3) := H
  have A5 := Aside0.mk A50
  clear A50
  replace H := Option.bind_eq_some_iff.mp H
  obtain ⟨⟨t821, t822, t825⟩, A60, H⟩ := H
  replace H : ((qF.f k t821 t822).bind fun bt827 => (if t825 = true then ((qP.f k bt827.1 bt827.2).bind fun t832 => ((zq.f k t832 l1).bind fun t835 => (if t835 = true then (some (bt827.1, bt827.2, true)) else (some (0, ([] : List Int), false))))) else (some (0, ([] : List Int), false)))) = some (r1, r2, r3) := H
  have A6 := Aside0.mk A60
  clear A60
  replace H := Option.bind_eq_some_iff.mp H
  obtain ⟨⟨t827, t828⟩, A70, H⟩ := H
  replace H : (if t825 = true then ((qP.f k t827 t828).bind fun t832 => ((zq.f k t832 l1).bind fun t835 => (if t835 = true then (some (t827, t828, true)) else (some (0, ([] : List Int), false))))) else (some (0, ([] : List Int), false))) = some (r1, r2, r3) := H
  have A7 := Aside0.mk A70
  clear A70
  by_cases c8 : t825 = true
  ·subst c8
   have H1 : ((qP.f k t827 t828).bind fun t832 => ((zq.f k t832 l1).bind fun t835 => (if t835 = true then (some (t827, t828, true)) else (some (0, ([] : List Int), false))))) = some (r1, r2, r3) := by rw [if_pos rfl] at H; exact H
   clear H
   have H := H1
   clear H1
   replace H := Option.bind_eq_some_iff.mp H
   obtain ⟨t832, A90, H⟩ := H
   replace H : ((zq.f k t832 l1).bind fun t835 => (if t835 = true then (some (t827, t828, true)) else (some (0, ([] : List Int), false)))) = some (r1, r2, r3) := H
   have A9 := Aside0.mk A90
   clear A90
   replace H := Option.bind_eq_some_iff.mp H
   obtain ⟨t835, A100, H⟩ := H
   replace H : (if t835 = true then (some (t827, t828, true)) else (some (0, ([] : List Int), false))) = some (r1, r2, r3) := H
   have A10 := Aside0.mk A100
   clear A100
   by_cases c11 : t835 = true
   ·subst c11
    have H1 : (some (t827, t828, true)) = some (r1, r2, r3) := by rw [if_pos rfl] at H; exact H
    clear H
    have H := H1
    clear H1
    simp only [Option.some.injEq, Prod.mk.injEq] at H
    obtain ⟨rfl, rfl, rfl⟩ := H
    go_enter Try.func35, Try.ntmps35
    go_wp2_with (first | ((with_reducible refine zi (N := 4) rfl ?_); refine zl ?hg (N := 4) ?hd (cs := #[.int .i64 0, .slice none 0 0]) (t := 27) ?hr ?_; (case hd => rfl); (case hg => rfl); (case hr => exact sqG); intro gb816 hg w12 hbox hb; have n0_ := Aside0.mk (zc sqB hb); have n1_ := Aside0.mk (hbox); have n2_ := Aside0.mk ((sqS hg : w.heap.size ≤ gb816)); have n3_ := Aside0.mk ((sqS hg : w.heap.size ≤ gb816)); clear HB; have HB := n0_; have BK816 := n1_; have GW816 := n2_; have GE816 := n3_; clear n0_ n1_ n2_ n3_; clear hb hbox hg) | ((with_reducible refine zd (f := 52) rfl ?_); refine zn (some 11) rfl rfl Try.func52 (by kernel_rfl) rfl #[.int .i64 a0, .slice A1 l1.length c1] rfl sqM ?_; (with_reducible refine (zE.calls k a0 _ _ l1 true _ ?side1 ?side2 A3.out).mono ?_); (case side1 => exact sqC (Kd.zp HR1.out HB.out)); (case side2 => exact HC1.out); rintro e w' ⟨rfl, ⟨nd, rfl⟩⟩; refine ⟨_, rfl, ?_⟩; (try (rw [qz w12]; generalize hq_ : World.drewN w12 _ = w12; have n0_ : Aside0 (w12.heap[gb816]? = some (.cells #[.int .i64 0, .slice none 0 0] 27 (0, 0))) := ⟨by rw [← hq_]; exact (sqK BK816.out)⟩; have n1_ : Aside0 (Below w.heap.size w w12) := ⟨by rw [← hq_]; exact sqB⟩; clear BK816 HB hq_; have BK816 := n0_; have HB := n1_; clear n0_ n1_; have hczqgb816_0 : w12.cell? ⟨gb816, 0, none⟩ = some (.int .i64 0) := (zb BK816.out 0).trans rfl; have hfzqgb816_0 := za BK816.out 0; have hczqgb816_1 : w12.cell? ⟨gb816, 1, none⟩ = some (.slice none 0 0) := (zb BK816.out 1).trans rfl; have hfzqgb816_1 := za BK816.out 1))) | ((with_reducible refine zd (f := 73) rfl ?_); refine zn (some 18) rfl rfl Try.func73 (by kernel_rfl) rfl #[.int .i64 a0, .slice A1 l1.length c1] rfl sqM ?_; (with_reducible refine (zG.calls k a0 _ _ l1 t818 _ ?side1 ?side2 A5.out).mono ?_); (case side1 => exact sqC (Kd.zp HR1.out HB.out)); (case side2 => exact HC1.out); rintro e w13 ⟨v819, rfl, ho0, hb⟩; refine ⟨_, rfl, ?_⟩; have n0_ := Aside0.mk (Kd.zD ho0 (zg sqB)); have n1_ := Aside0.mk (ze (g := gb816) (o := .cells #[.int .i64 0, .slice none 0 0] 27 (0, 0)) (sqK BK816.out) hb); have n2_ := Aside0.mk (zc sqB hb); clear BK816; clear HB; have HO820 := n0_; have BK816 := n1_; have HB := n2_; clear n0_ n1_ n2_; (try clear hb); (try clear hb2); (try clear hk); (try clear hi); (try clear ho0); obtain ⟨Ao14, co14, eo14⟩ := Kd.zR HO820.out; subst eo14) | ((with_reducible refine zd (f := 72) rfl ?_); refine zn (some 19) rfl rfl Try.func72 (by kernel_rfl) rfl #[.int .i64 a0, .slice Ao14 t818.length co14] rfl sqM ?_; (with_reducible refine (zX.calls k a0 _ _ t818 t821 t822 true _ ?side1 ?side2 A6.out).mono ?_); (case side1 => exact sqC (Kd.zh HO820.out).2.2); (case side2 => exact (Kd.zh HO820.out).2.1); rintro e w15 ⟨v823, rfl, ho0, hb⟩; refine ⟨_, rfl, ?_⟩; have n0_ := Aside0.mk (Kd.zU (sqR HO820.out) (Kd.qt ho0) hb); have n1_ := Aside0.mk (Kd.zD (Kd.qu ho0 (Kd.jd (sqR HO820.out))) (zg sqB)); have n2_ := Aside0.mk (ze (g := gb816) (o := .cells #[.int .i64 0, .slice none 0 0] 27 (0, 0)) (sqK BK816.out) hb); have n3_ := Aside0.mk (zc sqB hb); clear HO820; clear BK816; clear HB; have HO820 := n0_; have HO824 := n1_; have BK816 := n2_; have HB := n3_; clear n0_ n1_ n2_ n3_; (try clear hb); (try clear hb2); (try clear hk); (try clear hi); (try clear ho0)) | ((with_reducible refine zi (N := 6) rfl ?_); refine zl ?hg (N := 6) ?hd (cs := #[.int .i64 0, .slice none 0 0]) (t := 27) ?hr ?_; (case hd => rfl); (case hg => rfl); (case hr => exact sqG); intro gb826 hg w16 hbox hb; have n0_ := Aside0.mk (Kd.zz (sqR HO820.out) hb); have n1_ := Aside0.mk (Kd.zz (sqR HO824.out) hb); have n2_ := Aside0.mk (ze (g := gb816) (o := .cells #[.int .i64 0, .slice none 0 0] 27 (0, 0)) (sqK BK816.out) hb); have n3_ := Aside0.mk (zc sqB hb); have n4_ := Aside0.mk (hbox); have n5_ := Aside0.mk ((sqS hg : w.heap.size ≤ gb826)); have n6_ := Aside0.mk ((sqS hg : w.heap.size ≤ gb826)); have n7_ := Aside0.mk ((by rw [hg]; exact Nat.ne_of_lt (zV (g := gb816) (o := .cells #[.int .i64 0, .slice none 0 0] 27 (0, 0)) (sqK BK816.out)) : gb816 ≠ gb826)); have n8_ := Aside0.mk ((by rw [hg]; exact Nat.ne_of_gt (zV (g := gb816) (o := .cells #[.int .i64 0, .slice none 0 0] 27 (0, 0)) (sqK BK816.out)) : gb826 ≠ gb816)); clear HO820; clear HO824; clear BK816; clear HB; have HO820 := n0_; have HO824 := n1_; have BK816 := n2_; have HB := n3_; have BK826 := n4_; have GW826 := n5_; have GE826 := n6_; have NB816_826 := n7_; have NB826_816 := n8_; clear n0_ n1_ n2_ n3_ n4_ n5_ n6_ n7_ n8_; clear hb hbox hg; have hnb17 := NB826_816.out; have hnc17 := NB816_826.out; have hcz18_0 : w16.cell? ⟨gb826, 0, none⟩ = some (.int .i64 0) := (zb BK826.out 0).trans rfl; have hcz18_1 : w16.cell? ⟨gb826, 1, none⟩ = some (.slice none 0 0) := (zb BK826.out 1).trans rfl; have hfz18_0 := za BK826.out 0; have hfz18_1 := za BK826.out 1; obtain ⟨Ao19, co19, eo19⟩ := Kd.zR HO824.out; subst eo19) | ((with_reducible refine zd (f := 58) rfl ?_); refine zn (some 23) rfl rfl Try.func58 (by kernel_rfl) rfl #[.agg #[.int .i64 t821, .slice Ao19 t822.length co19]] rfl sqM ?_; (with_reducible refine (qF.calls k t821 _ _ t822 t827 t828 _ ?side1 ?side2 A7.out).mono ?_); (case side1 => refine (Kd.zh (e := 3) (base := w.heap.size) (ok := fun k_ => (True ∧ some k_ ≠ (.slice Ao14 t818.length co14 : Value).ownBlock)) (n := t822.length) (c := co19) ?_).2.2; exact (by refine sqR ?_; exact (Kd.zu (Kd.zC (p := ⟨gb826, 1, none⟩) (Kd.zC (p := ⟨gb826, 0, none⟩) (Kd.zK HO824.out BK826.out (by decide)) (fun _ hk => hk.2) (.int .i64 t821)) (fun _ hk => hk.2) (.slice Ao19 t822.length co19)) (fun _ h_ => h_.1)))); (case side2 => exact (Kd.zh HO824.out).2.1); rintro e w20 ⟨v829, rfl, ho0, hb⟩; refine ⟨_, rfl, ?_⟩; have n0_ := Aside0.mk (Kd.zU (by refine sqR ?_; exact (Kd.zu (Kd.zC (p := ⟨gb826, 1, none⟩) (Kd.zC (p := ⟨gb826, 0, none⟩) (Kd.zK HO820.out BK826.out (by decide)) (fun _ hk => hk.2) (.int .i64 t821)) (fun _ hk => hk.2) (.slice Ao19 t822.length co19)) (fun _ h_ => h_.1))) (Kd.qt ho0) hb); have n1_ := Aside0.mk (Kd.zU (by refine sqR ?_; exact (Kd.zu (Kd.zC (p := ⟨gb826, 1, none⟩) (Kd.zC (p := ⟨gb826, 0, none⟩) (Kd.zK HO824.out BK826.out (by decide)) (fun _ hk => hk.2) (.int .i64 t821)) (fun _ hk => hk.2) (.slice Ao19 t822.length co19)) (fun _ h_ => h_.1))) (Kd.qt ho0) hb); have n2_ := Aside0.mk (Kd.zD (Kd.qu (Kd.qu ho0 (Kd.jd (by refine sqR ?_; exact (Kd.zu (Kd.zC (p := ⟨gb826, 1, none⟩) (Kd.zC (p := ⟨gb826, 0, none⟩) (Kd.zK HO820.out BK826.out (by decide)) (fun _ hk => hk.2) (.int .i64 t821)) (fun _ hk => hk.2) (.slice Ao19 t822.length co19)) (fun _ h_ => h_.1))))) (Kd.jd (by refine sqR ?_; exact (Kd.zu (Kd.zC (p := ⟨gb826, 1, none⟩) (Kd.zC (p := ⟨gb826, 0, none⟩) (Kd.zK HO824.out BK826.out (by decide)) (fun _ hk => hk.2) (.int .i64 t821)) (fun _ hk => hk.2) (.slice Ao19 t822.length co19)) (fun _ h_ => h_.1))))) (zg sqB)); have n3_ := Aside0.mk (ze (g := gb816) (o := .cells #[.int .i64 0, .slice none 0 0] 27 (0, 0)) (by refine sqK ?_; refine qk ?_ NB816_826.out _; refine sqK ?_; refine qk ?_ NB816_826.out _; refine sqK ?_; exact BK816.out) hb); have n4_ := Aside0.mk (ze (g := gb826) (o := .cells #[.int .i64 t821, .slice Ao19 t822.length co19] 27 (0, 0)) (by refine sqK ?_; refine zB (cs := #[.int .i64 t821, .slice none 0 0]) ?_ 1 _ rfl; refine sqK ?_; refine zB (cs := #[.int .i64 0, .slice none 0 0]) ?_ 0 _ rfl; refine sqK ?_; exact BK826.out) hb); have n5_ := Aside0.mk (zc sqB hb); clear HO820; clear HO824; clear BK816; clear BK826; clear HB; have HO820 := n0_; have HO824 := n1_; have HO830 := n2_; have BK816 := n3_; have BK826 := n4_; have HB := n5_; clear n0_ n1_ n2_ n3_ n4_ n5_; (try clear hb); (try clear hb2); (try clear hk); (try clear hi); (try clear ho0)) | ((with_reducible refine zi (N := 8) rfl ?_); refine zl ?hg (N := 8) ?hd (cs := #[.int .i64 0, .slice none 0 0]) (t := 27) ?hr ?_; (case hd => rfl); (case hg => rfl); (case hr => exact sqG); intro gb831 hg w21 hbox hb; have n0_ := Aside0.mk (Kd.zz (sqR HO820.out) hb); have n1_ := Aside0.mk (Kd.zz (sqR HO824.out) hb); have n2_ := Aside0.mk (Kd.zz (sqR HO830.out) hb); have n3_ := Aside0.mk (ze (g := gb816) (o := .cells #[.int .i64 0, .slice none 0 0] 27 (0, 0)) (sqK BK816.out) hb); have n4_ := Aside0.mk (ze (g := gb826) (o := .cells #[.int .i64 t821, .slice Ao19 t822.length co19] 27 (0, 0)) (sqK BK826.out) hb); have n5_ := Aside0.mk (zc sqB hb); have n6_ := Aside0.mk (hbox); have n7_ := Aside0.mk ((sqS hg : w.heap.size ≤ gb831)); have n8_ := Aside0.mk ((sqS hg : w.heap.size ≤ gb831)); have n9_ := Aside0.mk ((by rw [hg]; exact Nat.ne_of_lt (zV (g := gb816) (o := .cells #[.int .i64 0, .slice none 0 0] 27 (0, 0)) (sqK BK816.out)) : gb816 ≠ gb831)); have n10_ := Aside0.mk ((by rw [hg]; exact Nat.ne_of_gt (zV (g := gb816) (o := .cells #[.int .i64 0, .slice none 0 0] 27 (0, 0)) (sqK BK816.out)) : gb831 ≠ gb816)); have n11_ := Aside0.mk ((by rw [hg]; exact Nat.ne_of_lt (zV (g := gb826) (o := .cells #[.int .i64 t821, .slice Ao19 t822.length co19] 27 (0, 0)) (sqK BK826.out)) : gb826 ≠ gb831)); have n12_ := Aside0.mk ((by rw [hg]; exact Nat.ne_of_gt (zV (g := gb826) (o := .cells #[.int .i64 t821, .slice Ao19 t822.length co19] 27 (0, 0)) (sqK BK826.out)) : gb831 ≠ gb826)); clear HO820; clear HO824; clear HO830; clear BK816; clear BK826; clear HB; have HO820 := n0_; have HO824 := n1_; have HO830 := n2_; have BK816 := n3_; have BK826 := n4_; have HB := n5_; have BK831 := n6_; have GW831 := n7_; have GE831 := n8_; have NB816_831 := n9_; have NB831_816 := n10_; have NB826_831 := n11_; have NB831_826 := n12_; clear n0_ n1_ n2_ n3_ n4_ n5_ n6_ n7_ n8_ n9_ n10_ n11_ n12_; clear hb hbox hg; have hnb22 := NB831_816.out; have hnc22 := NB816_831.out; have hnb23 := NB831_826.out; have hnc23 := NB826_831.out; have hcz24_0 : w21.cell? ⟨gb831, 0, none⟩ = some (.int .i64 0) := (zb BK831.out 0).trans rfl; have hcz24_1 : w21.cell? ⟨gb831, 1, none⟩ = some (.slice none 0 0) := (zb BK831.out 1).trans rfl; have hfz24_0 := za BK831.out 0; have hfz24_1 := za BK831.out 1; obtain ⟨Ao25, co25, eo25⟩ := Kd.zR HO830.out; subst eo25) | (go_at_call 74; (try simp only [zj, zo]); (with_reducible refine (qP.calls k t827 _ _ t828 t832 _ ?side1 ?side2 A9.out).mono ?_); (case side1 => refine (Kd.zh (e := 3) (base := w.heap.size) (ok := fun k_ => ((True ∧ some k_ ≠ (.slice Ao14 t818.length co14 : Value).ownBlock) ∧ some k_ ≠ (.slice Ao19 t822.length co19 : Value).ownBlock)) (n := t828.length) (c := co25) ?_).2.2; exact (by refine sqR ?_; exact (Kd.zu (Kd.zC (p := ⟨gb831, 1, none⟩) (Kd.zC (p := ⟨gb831, 0, none⟩) (Kd.zK HO830.out BK831.out (by decide)) (fun _ hk => hk.2) (.int .i64 t827)) (fun _ hk => hk.2) (.slice Ao25 t828.length co25)) (fun _ h_ => h_.1)))); (case side2 => exact (Kd.zh HO830.out).2.1); rintro e w26 ⟨v833, rfl, ho0, hb⟩; have n0_ := Aside0.mk (Kd.zU (by refine sqR ?_; exact (Kd.zu (Kd.zC (p := ⟨gb831, 1, none⟩) (Kd.zC (p := ⟨gb831, 0, none⟩) (Kd.zK HO820.out BK831.out (by decide)) (fun _ hk => hk.2) (.int .i64 t827)) (fun _ hk => hk.2) (.slice Ao25 t828.length co25)) (fun _ h_ => h_.1))) (Kd.qt ho0) hb); have n1_ := Aside0.mk (Kd.zU (by refine sqR ?_; exact (Kd.zu (Kd.zC (p := ⟨gb831, 1, none⟩) (Kd.zC (p := ⟨gb831, 0, none⟩) (Kd.zK HO824.out BK831.out (by decide)) (fun _ hk => hk.2) (.int .i64 t827)) (fun _ hk => hk.2) (.slice Ao25 t828.length co25)) (fun _ h_ => h_.1))) (Kd.qt ho0) hb); have n2_ := Aside0.mk (Kd.zU (by refine sqR ?_; exact (Kd.zu (Kd.zC (p := ⟨gb831, 1, none⟩) (Kd.zC (p := ⟨gb831, 0, none⟩) (Kd.zK HO830.out BK831.out (by decide)) (fun _ hk => hk.2) (.int .i64 t827)) (fun _ hk => hk.2) (.slice Ao25 t828.length co25)) (fun _ h_ => h_.1))) (Kd.qt ho0) hb); have n3_ := Aside0.mk (Kd.zD (Kd.qu (Kd.qu (Kd.qu ho0 (Kd.jd (by refine sqR ?_; exact (Kd.zu (Kd.zC (p := ⟨gb831, 1, none⟩) (Kd.zC (p := ⟨gb831, 0, none⟩) (Kd.zK HO820.out BK831.out (by decide)) (fun _ hk => hk.2) (.int .i64 t827)) (fun _ hk => hk.2) (.slice Ao25 t828.length co25)) (fun _ h_ => h_.1))))) (Kd.jd (by refine sqR ?_; exact (Kd.zu (Kd.zC (p := ⟨gb831, 1, none⟩) (Kd.zC (p := ⟨gb831, 0, none⟩) (Kd.zK HO824.out BK831.out (by decide)) (fun _ hk => hk.2) (.int .i64 t827)) (fun _ hk => hk.2) (.slice Ao25 t828.length co25)) (fun _ h_ => h_.1))))) (Kd.jd (by refine sqR ?_; exact (Kd.zu (Kd.zC (p := ⟨gb831, 1, none⟩) (Kd.zC (p := ⟨gb831, 0, none⟩) (Kd.zK HO830.out BK831.out (by decide)) (fun _ hk => hk.2) (.int .i64 t827)) (fun _ hk => hk.2) (.slice Ao25 t828.length co25)) (fun _ h_ => h_.1))))) (zg sqB)); have n4_ := Aside0.mk (ze (g := gb816) (o := .cells #[.int .i64 0, .slice none 0 0] 27 (0, 0)) (by refine sqK ?_; refine qk ?_ NB816_831.out _; refine sqK ?_; refine qk ?_ NB816_831.out _; refine sqK ?_; exact BK816.out) hb); have n5_ := Aside0.mk (ze (g := gb826) (o := .cells #[.int .i64 t821, .slice Ao19 t822.length co19] 27 (0, 0)) (by refine sqK ?_; refine qk ?_ NB826_831.out _; refine sqK ?_; refine qk ?_ NB826_831.out _; refine sqK ?_; exact BK826.out) hb); have n6_ := Aside0.mk (ze (g := gb831) (o := .cells #[.int .i64 t827, .slice Ao25 t828.length co25] 27 (0, 0)) (by refine sqK ?_; refine zB (cs := #[.int .i64 t827, .slice none 0 0]) ?_ 1 _ rfl; refine sqK ?_; refine zB (cs := #[.int .i64 0, .slice none 0 0]) ?_ 0 _ rfl; refine sqK ?_; exact BK831.out) hb); have n7_ := Aside0.mk (zc sqB hb); clear HO820; clear HO824; clear HO830; clear BK816; clear BK826; clear BK831; clear HB; have HO820 := n0_; have HO824 := n1_; have HO830 := n2_; have HO834 := n3_; have BK816 := n4_; have BK826 := n5_; have BK831 := n6_; have HB := n7_; clear n0_ n1_ n2_ n3_ n4_ n5_ n6_ n7_; (try clear hb); (try clear hb2); (try clear hk); (try clear hi); (try clear ho0); obtain ⟨Ao27, co27, eo27⟩ := Kd.zR HO834.out; subst eo27) | (go_at_call 54; (try simp only [zj, zo]); (with_reducible refine (zq.calls k _ _ t832 _ _ l1 true _ ?side1 ?side2 ?side3 ?side4 A10.out).mono ?_); (case side1 => exact sqC (Kd.zh HO834.out).2.2); (case side2 => exact (Kd.zh HO834.out).2.1); (case side3 => exact sqC (Kd.zp HR1.out HB.out)); (case side4 => exact HC1.out); rintro e w' ⟨rfl, ⟨nd, rfl⟩⟩; (try (rw [qz w26]; generalize hq_ : World.drewN w26 _ = w26; have n0_ : Aside0 (Kd.R (Kd.int .i64) 3 w26 w.heap.size (fun k_ => some k_ ≠ (.slice Ao19 t822.length co19 : Value).ownBlock ∧ some k_ ≠ (.slice Ao25 t828.length co25 : Value).ownBlock ∧ some k_ ≠ (.slice Ao27 t832.length co27 : Value).ownBlock) (.slice Ao14 t818.length co14) t818) := ⟨by rw [← hq_]; exact (by refine sqR ?_; exact Kd.zu HO820.out (fun _ hk => by first | exact ⟨hk.1.1.2, ⟨hk.1.2, hk.2⟩⟩ | (refine ⟨?_, ?_, ?_⟩ <;> intro e_ <;> simp only [e_, ne_eq, not_true_eq_false, and_false, false_and] at hk)))⟩; have n1_ : Aside0 (Kd.R (Kd.int .i64) 3 w26 w.heap.size (fun k_ => some k_ ≠ (.slice Ao14 t818.length co14 : Value).ownBlock ∧ some k_ ≠ (.slice Ao25 t828.length co25 : Value).ownBlock ∧ some k_ ≠ (.slice Ao27 t832.length co27 : Value).ownBlock) (.slice Ao19 t822.length co19) t822) := ⟨by rw [← hq_]; exact (by refine sqR ?_; exact Kd.zu HO824.out (fun _ hk => by first | exact ⟨hk.1.1.2, ⟨hk.1.2, hk.2⟩⟩ | (refine ⟨?_, ?_, ?_⟩ <;> intro e_ <;> simp only [e_, ne_eq, not_true_eq_false, and_false, false_and] at hk)))⟩; have n2_ : Aside0 (Kd.R (Kd.int .i64) 3 w26 w.heap.size (fun k_ => some k_ ≠ (.slice Ao14 t818.length co14 : Value).ownBlock ∧ some k_ ≠ (.slice Ao19 t822.length co19 : Value).ownBlock ∧ some k_ ≠ (.slice Ao27 t832.length co27 : Value).ownBlock) (.slice Ao25 t828.length co25) t828) := ⟨by rw [← hq_]; exact (by refine sqR ?_; exact Kd.zu HO830.out (fun _ hk => by first | exact ⟨hk.1.1.2, ⟨hk.1.2, hk.2⟩⟩ | (refine ⟨?_, ?_, ?_⟩ <;> intro e_ <;> simp only [e_, ne_eq, not_true_eq_false, and_false, false_and] at hk)))⟩; have n3_ : Aside0 (Kd.R (Kd.int .i64) 3 w26 w.heap.size (fun k_ => some k_ ≠ (.slice Ao14 t818.length co14 : Value).ownBlock ∧ some k_ ≠ (.slice Ao19 t822.length co19 : Value).ownBlock ∧ some k_ ≠ (.slice Ao25 t828.length co25 : Value).ownBlock) (.slice Ao27 t832.length co27) t832) := ⟨by rw [← hq_]; exact (by refine sqR ?_; exact Kd.zu HO834.out (fun _ hk => by first | exact ⟨hk.1.1.2, ⟨hk.1.2, hk.2⟩⟩ | (refine ⟨?_, ?_, ?_⟩ <;> intro e_ <;> simp only [e_, ne_eq, not_true_eq_false, and_false, false_and] at hk)))⟩; have n4_ : Aside0 (w26.heap[gb816]? = some (.cells #[.int .i64 0, .slice none 0 0] 27 (0, 0))) := ⟨by rw [← hq_]; exact (sqK BK816.out)⟩; have n5_ : Aside0 (w26.heap[gb826]? = some (.cells #[.int .i64 t821, .slice Ao19 t822.length co19] 27 (0, 0))) := ⟨by rw [← hq_]; exact (sqK BK826.out)⟩; have n6_ : Aside0 (w26.heap[gb831]? = some (.cells #[.int .i64 t827, .slice Ao25 t828.length co25] 27 (0, 0))) := ⟨by rw [← hq_]; exact (sqK BK831.out)⟩; have n7_ : Aside0 (Below w.heap.size w w26) := ⟨by rw [← hq_]; exact sqB⟩; clear HO820 HO824 HO830 HO834 BK816 BK826 BK831 HB hq_; have HO820 := n0_; have HO824 := n1_; have HO830 := n2_; have HO834 := n3_; have BK816 := n4_; have BK826 := n5_; have BK831 := n6_; have HB := n7_; clear n0_ n1_ n2_ n3_ n4_ n5_ n6_ n7_; have hczqgb816_0 : w26.cell? ⟨gb816, 0, none⟩ = some (.int .i64 0) := (zb BK816.out 0).trans rfl; have hfzqgb816_0 := za BK816.out 0; have hczqgb816_1 : w26.cell? ⟨gb816, 1, none⟩ = some (.slice none 0 0) := (zb BK816.out 1).trans rfl; have hfzqgb816_1 := za BK816.out 1; have hczqgb826_0 : w26.cell? ⟨gb826, 0, none⟩ = some (.int .i64 t821) := (zb BK826.out 0).trans rfl; have hfzqgb826_0 := za BK826.out 0; have hczqgb826_1 : w26.cell? ⟨gb826, 1, none⟩ = some (.slice Ao19 t822.length co19) := (zb BK826.out 1).trans rfl; have hfzqgb826_1 := za BK826.out 1; have hczqgb831_0 : w26.cell? ⟨gb831, 0, none⟩ = some (.int .i64 t827) := (zb BK831.out 0).trans rfl; have hfzqgb831_0 := za BK831.out 0; have hczqgb831_1 : w26.cell? ⟨gb831, 1, none⟩ = some (.slice Ao25 t828.length co25) := (zb BK831.out 1).trans rfl; have hfzqgb831_1 := za BK831.out 1)); have hcz28_0 : w26.cell? ⟨gb831, 0, none⟩ = some (.int .i64 t827) := (zb BK831.out 0).trans rfl; have hcz28_1 : w26.cell? ⟨gb831, 1, none⟩ = some (.slice Ao25 t828.length co25) := (zb BK831.out 1).trans rfl; have hfz28_0 := za BK831.out 0; have hfz28_1 := za BK831.out 1; have hcz29_0 : w26.cell? ⟨gb816, 0, none⟩ = some (.int .i64 0) := (zb BK816.out 0).trans rfl; have hcz29_1 : w26.cell? ⟨gb816, 1, none⟩ = some (.slice none 0 0) := (zb BK816.out 1).trans rfl; have hfz29_0 := za BK816.out 0; have hfz29_1 := za BK816.out 1))
    refine bodyPost_ret (qG rfl _ _ gb816 27 #[.int .i64 t827, .slice Ao25 t828.length co25] (0, 0) _ rfl (by refine sqK ?_; refine zB (cs := #[.int .i64 t827, .slice none 0 0]) ?_ 1 _ rfl; refine sqK ?_; refine zB (cs := #[.int .i64 0, .slice none 0 0]) ?_ 0 _ rfl; refine sqK ?_; exact BK816.out) Try.underlying27 rfl (by kernel_rfl)) rfl ?_
    exact ⟨_, sqE, by refine sqR ?_; exact Kd.zu (Kd.zC (p := ⟨gb816, 1, none⟩) (Kd.zC (p := ⟨gb816, 0, none⟩) (Kd.zK HO830.out BK816.out (by decide)) (fun _ hk => hk.2) (.int .i64 t827)) (fun _ hk => hk.2) (.slice Ao25 t828.length co25)) (fun _ hk => trivial), sqB⟩
   ·replace c11 := Bool.eq_false_iff.mpr c11
    subst c11
    have H1 : (some (0, ([] : List Int), false)) = some (r1, r2, r3) := by rw [if_neg (show ¬ (false = true) by decide)] at H; exact H
    clear H
    have H := H1
    clear H1
    simp only [Option.some.injEq, Prod.mk.injEq] at H
    obtain ⟨rfl, rfl, rfl⟩ := H
    go_enter Try.func35, Try.ntmps35
    go_wp2_with (first | ((with_reducible refine zi (N := 4) rfl ?_); refine zl ?hg (N := 4) ?hd (cs := #[.int .i64 0, .slice none 0 0]) (t := 27) ?hr ?_; (case hd => rfl); (case hg => rfl); (case hr => exact sqG); intro gb816 hg w30 hbox hb; have n0_ := Aside0.mk (zc sqB hb); have n1_ := Aside0.mk (hbox); have n2_ := Aside0.mk ((sqS hg : w.heap.size ≤ gb816)); have n3_ := Aside0.mk ((sqS hg : w.heap.size ≤ gb816)); clear HB; have HB := n0_; have BK816 := n1_; have GW816 := n2_; have GE816 := n3_; clear n0_ n1_ n2_ n3_; clear hb hbox hg) | ((with_reducible refine zd (f := 52) rfl ?_); refine zn (some 11) rfl rfl Try.func52 (by kernel_rfl) rfl #[.int .i64 a0, .slice A1 l1.length c1] rfl sqM ?_; (with_reducible refine (zE.calls k a0 _ _ l1 true _ ?side1 ?side2 A3.out).mono ?_); (case side1 => exact sqC (Kd.zp HR1.out HB.out)); (case side2 => exact HC1.out); rintro e w' ⟨rfl, ⟨nd, rfl⟩⟩; refine ⟨_, rfl, ?_⟩; (try (rw [qz w30]; generalize hq_ : World.drewN w30 _ = w30; have n0_ : Aside0 (w30.heap[gb816]? = some (.cells #[.int .i64 0, .slice none 0 0] 27 (0, 0))) := ⟨by rw [← hq_]; exact (sqK BK816.out)⟩; have n1_ : Aside0 (Below w.heap.size w w30) := ⟨by rw [← hq_]; exact sqB⟩; clear BK816 HB hq_; have BK816 := n0_; have HB := n1_; clear n0_ n1_; have hczqgb816_0 : w30.cell? ⟨gb816, 0, none⟩ = some (.int .i64 0) := (zb BK816.out 0).trans rfl; have hfzqgb816_0 := za BK816.out 0; have hczqgb816_1 : w30.cell? ⟨gb816, 1, none⟩ = some (.slice none 0 0) := (zb BK816.out 1).trans rfl; have hfzqgb816_1 := za BK816.out 1))) | ((with_reducible refine zd (f := 73) rfl ?_); refine zn (some 18) rfl rfl Try.func73 (by kernel_rfl) rfl #[.int .i64 a0, .slice A1 l1.length c1] rfl sqM ?_; (with_reducible refine (zG.calls k a0 _ _ l1 t818 _ ?side1 ?side2 A5.out).mono ?_); (case side1 => exact sqC (Kd.zp HR1.out HB.out)); (case side2 => exact HC1.out); rintro e w31 ⟨v819, rfl, ho0, hb⟩; refine ⟨_, rfl, ?_⟩; have n0_ := Aside0.mk (Kd.zD ho0 (zg sqB)); have n1_ := Aside0.mk (ze (g := gb816) (o := .cells #[.int .i64 0, .slice none 0 0] 27 (0, 0)) (sqK BK816.out) hb); have n2_ := Aside0.mk (zc sqB hb); clear BK816; clear HB; have HO820 := n0_; have BK816 := n1_; have HB := n2_; clear n0_ n1_ n2_; (try clear hb); (try clear hb2); (try clear hk); (try clear hi); (try clear ho0); obtain ⟨Ao32, co32, eo32⟩ := Kd.zR HO820.out; subst eo32) | ((with_reducible refine zd (f := 72) rfl ?_); refine zn (some 19) rfl rfl Try.func72 (by kernel_rfl) rfl #[.int .i64 a0, .slice Ao32 t818.length co32] rfl sqM ?_; (with_reducible refine (zX.calls k a0 _ _ t818 t821 t822 true _ ?side1 ?side2 A6.out).mono ?_); (case side1 => exact sqC (Kd.zh HO820.out).2.2); (case side2 => exact (Kd.zh HO820.out).2.1); rintro e w33 ⟨v823, rfl, ho0, hb⟩; refine ⟨_, rfl, ?_⟩; have n0_ := Aside0.mk (Kd.zU (sqR HO820.out) (Kd.qt ho0) hb); have n1_ := Aside0.mk (Kd.zD (Kd.qu ho0 (Kd.jd (sqR HO820.out))) (zg sqB)); have n2_ := Aside0.mk (ze (g := gb816) (o := .cells #[.int .i64 0, .slice none 0 0] 27 (0, 0)) (sqK BK816.out) hb); have n3_ := Aside0.mk (zc sqB hb); clear HO820; clear BK816; clear HB; have HO820 := n0_; have HO824 := n1_; have BK816 := n2_; have HB := n3_; clear n0_ n1_ n2_ n3_; (try clear hb); (try clear hb2); (try clear hk); (try clear hi); (try clear ho0)) | ((with_reducible refine zi (N := 6) rfl ?_); refine zl ?hg (N := 6) ?hd (cs := #[.int .i64 0, .slice none 0 0]) (t := 27) ?hr ?_; (case hd => rfl); (case hg => rfl); (case hr => exact sqG); intro gb826 hg w34 hbox hb; have n0_ := Aside0.mk (Kd.zz (sqR HO820.out) hb); have n1_ := Aside0.mk (Kd.zz (sqR HO824.out) hb); have n2_ := Aside0.mk (ze (g := gb816) (o := .cells #[.int .i64 0, .slice none 0 0] 27 (0, 0)) (sqK BK816.out) hb); have n3_ := Aside0.mk (zc sqB hb); have n4_ := Aside0.mk (hbox); have n5_ := Aside0.mk ((sqS hg : w.heap.size ≤ gb826)); have n6_ := Aside0.mk ((sqS hg : w.heap.size ≤ gb826)); have n7_ := Aside0.mk ((by rw [hg]; exact Nat.ne_of_lt (zV (g := gb816) (o := .cells #[.int .i64 0, .slice none 0 0] 27 (0, 0)) (sqK BK816.out)) : gb816 ≠ gb826)); have n8_ := Aside0.mk ((by rw [hg]; exact Nat.ne_of_gt (zV (g := gb816) (o := .cells #[.int .i64 0, .slice none 0 0] 27 (0, 0)) (sqK BK816.out)) : gb826 ≠ gb816)); clear HO820; clear HO824; clear BK816; clear HB; have HO820 := n0_; have HO824 := n1_; have BK816 := n2_; have HB := n3_; have BK826 := n4_; have GW826 := n5_; have GE826 := n6_; have NB816_826 := n7_; have NB826_816 := n8_; clear n0_ n1_ n2_ n3_ n4_ n5_ n6_ n7_ n8_; clear hb hbox hg; have hnb35 := NB826_816.out; have hnc35 := NB816_826.out; have hcz36_0 : w34.cell? ⟨gb826, 0, none⟩ = some (.int .i64 0) := (zb BK826.out 0).trans rfl; have hcz36_1 : w34.cell? ⟨gb826, 1, none⟩ = some (.slice none 0 0) := (zb BK826.out 1).trans rfl; have hfz36_0 := za BK826.out 0; have hfz36_1 := za BK826.out 1; obtain ⟨Ao37, co37, eo37⟩ := Kd.zR HO824.out; subst eo37) | ((with_reducible refine zd (f := 58) rfl ?_); refine zn (some 23) rfl rfl Try.func58 (by kernel_rfl) rfl #[.agg #[.int .i64 t821, .slice Ao37 t822.length co37]] rfl sqM ?_; (with_reducible refine (qF.calls k t821 _ _ t822 t827 t828 _ ?side1 ?side2 A7.out).mono ?_); (case side1 => refine (Kd.zh (e := 3) (base := w.heap.size) (ok := fun k_ => (True ∧ some k_ ≠ (.slice Ao32 t818.length co32 : Value).ownBlock)) (n := t822.length) (c := co37) ?_).2.2; exact (by refine sqR ?_; exact (Kd.zu (Kd.zC (p := ⟨gb826, 1, none⟩) (Kd.zC (p := ⟨gb826, 0, none⟩) (Kd.zK HO824.out BK826.out (by decide)) (fun _ hk => hk.2) (.int .i64 t821)) (fun _ hk => hk.2) (.slice Ao37 t822.length co37)) (fun _ h_ => h_.1)))); (case side2 => exact (Kd.zh HO824.out).2.1); rintro e w38 ⟨v829, rfl, ho0, hb⟩; refine ⟨_, rfl, ?_⟩; have n0_ := Aside0.mk (Kd.zU (by refine sqR ?_; exact (Kd.zu (Kd.zC (p := ⟨gb826, 1, none⟩) (Kd.zC (p := ⟨gb826, 0, none⟩) (Kd.zK HO820.out BK826.out (by decide)) (fun _ hk => hk.2) (.int .i64 t821)) (fun _ hk => hk.2) (.slice Ao37 t822.length co37)) (fun _ h_ => h_.1))) (Kd.qt ho0) hb); have n1_ := Aside0.mk (Kd.zU (by refine sqR ?_; exact (Kd.zu (Kd.zC (p := ⟨gb826, 1, none⟩) (Kd.zC (p := ⟨gb826, 0, none⟩) (Kd.zK HO824.out BK826.out (by decide)) (fun _ hk => hk.2) (.int .i64 t821)) (fun _ hk => hk.2) (.slice Ao37 t822.length co37)) (fun _ h_ => h_.1))) (Kd.qt ho0) hb); have n2_ := Aside0.mk (Kd.zD (Kd.qu (Kd.qu ho0 (Kd.jd (by refine sqR ?_; exact (Kd.zu (Kd.zC (p := ⟨gb826, 1, none⟩) (Kd.zC (p := ⟨gb826, 0, none⟩) (Kd.zK HO820.out BK826.out (by decide)) (fun _ hk => hk.2) (.int .i64 t821)) (fun _ hk => hk.2) (.slice Ao37 t822.length co37)) (fun _ h_ => h_.1))))) (Kd.jd (by refine sqR ?_; exact (Kd.zu (Kd.zC (p := ⟨gb826, 1, none⟩) (Kd.zC (p := ⟨gb826, 0, none⟩) (Kd.zK HO824.out BK826.out (by decide)) (fun _ hk => hk.2) (.int .i64 t821)) (fun _ hk => hk.2) (.slice Ao37 t822.length co37)) (fun _ h_ => h_.1))))) (zg sqB)); have n3_ := Aside0.mk (ze (g := gb816) (o := .cells #[.int .i64 0, .slice none 0 0] 27 (0, 0)) (by refine sqK ?_; refine qk ?_ NB816_826.out _; refine sqK ?_; refine qk ?_ NB816_826.out _; refine sqK ?_; exact BK816.out) hb); have n4_ := Aside0.mk (ze (g := gb826) (o := .cells #[.int .i64 t821, .slice Ao37 t822.length co37] 27 (0, 0)) (by refine sqK ?_; refine zB (cs := #[.int .i64 t821, .slice none 0 0]) ?_ 1 _ rfl; refine sqK ?_; refine zB (cs := #[.int .i64 0, .slice none 0 0]) ?_ 0 _ rfl; refine sqK ?_; exact BK826.out) hb); have n5_ := Aside0.mk (zc sqB hb); clear HO820; clear HO824; clear BK816; clear BK826; clear HB; have HO820 := n0_; have HO824 := n1_; have HO830 := n2_; have BK816 := n3_; have BK826 := n4_; have HB := n5_; clear n0_ n1_ n2_ n3_ n4_ n5_; (try clear hb); (try clear hb2); (try clear hk); (try clear hi); (try clear ho0)) | ((with_reducible refine zi (N := 8) rfl ?_); refine zl ?hg (N := 8) ?hd (cs := #[.int .i64 0, .slice none 0 0]) (t := 27) ?hr ?_; (case hd => rfl); (case hg => rfl); (case hr => exact sqG); intro gb831 hg w39 hbox hb; have n0_ := Aside0.mk (Kd.zz (sqR HO820.out) hb); have n1_ := Aside0.mk (Kd.zz (sqR HO824.out) hb); have n2_ := Aside0.mk (Kd.zz (sqR HO830.out) hb); have n3_ := Aside0.mk (ze (g := gb816) (o := .cells #[.int .i64 0, .slice none 0 0] 27 (0, 0)) (sqK BK816.out) hb); have n4_ := Aside0.mk (ze (g := gb826) (o := .cells #[.int .i64 t821, .slice Ao37 t822.length co37] 27 (0, 0)) (sqK BK826.out) hb); have n5_ := Aside0.mk (zc sqB hb); have n6_ := Aside0.mk (hbox); have n7_ := Aside0.mk ((sqS hg : w.heap.size ≤ gb831)); have n8_ := Aside0.mk ((sqS hg : w.heap.size ≤ gb831)); have n9_ := Aside0.mk ((by rw [hg]; exact Nat.ne_of_lt (zV (g := gb816) (o := .cells #[.int .i64 0, .slice none 0 0] 27 (0, 0)) (sqK BK816.out)) : gb816 ≠ gb831)); have n10_ := Aside0.mk ((by rw [hg]; exact Nat.ne_of_gt (zV (g := gb816) (o := .cells #[.int .i64 0, .slice none 0 0] 27 (0, 0)) (sqK BK816.out)) : gb831 ≠ gb816)); have n11_ := Aside0.mk ((by rw [hg]; exact Nat.ne_of_lt (zV (g := gb826) (o := .cells #[.int .i64 t821, .slice Ao37 t822.length co37] 27 (0, 0)) (sqK BK826.out)) : gb826 ≠ gb831)); have n12_ := Aside0.mk ((by rw [hg]; exact Nat.ne_of_gt (zV (g := gb826) (o := .cells #[.int .i64 t821, .slice Ao37 t822.length co37] 27 (0, 0)) (sqK BK826.out)) : gb831 ≠ gb826)); clear HO820; clear HO824; clear HO830; clear BK816; clear BK826; clear HB; have HO820 := n0_; have HO824 := n1_; have HO830 := n2_; have BK816 := n3_; have BK826 := n4_; have HB := n5_; have BK831 := n6_; have GW831 := n7_; have GE831 := n8_; have NB816_831 := n9_; have NB831_816 := n10_; have NB826_831 := n11_; have NB831_826 := n12_; clear n0_ n1_ n2_ n3_ n4_ n5_ n6_ n7_ n8_ n9_ n10_ n11_ n12_; clear hb hbox hg; have hnb40 := NB831_816.out; have hnc40 := NB816_831.out; have hnb41 := NB831_826.out; have hnc41 := NB826_831.out; have hcz42_0 : w39.cell? ⟨gb831, 0, none⟩ = some (.int .i64 0) := (zb BK831.out 0).trans rfl; have hcz42_1 : w39.cell? ⟨gb831, 1, none⟩ = some (.slice none 0 0) := (zb BK831.out 1).trans rfl; have hfz42_0 := za BK831.out 0; have hfz42_1 := za BK831.out 1; obtain ⟨Ao43, co43, eo43⟩ := Kd.zR HO830.out; subst eo43) | (go_at_call 74; (try simp only [zj, zo]); (with_reducible refine (qP.calls k t827 _ _ t828 t832 _ ?side1 ?side2 A9.out).mono ?_); (case side1 => refine (Kd.zh (e := 3) (base := w.heap.size) (ok := fun k_ => ((True ∧ some k_ ≠ (.slice Ao32 t818.length co32 : Value).ownBlock) ∧ some k_ ≠ (.slice Ao37 t822.length co37 : Value).ownBlock)) (n := t828.length) (c := co43) ?_).2.2; exact (by refine sqR ?_; exact (Kd.zu (Kd.zC (p := ⟨gb831, 1, none⟩) (Kd.zC (p := ⟨gb831, 0, none⟩) (Kd.zK HO830.out BK831.out (by decide)) (fun _ hk => hk.2) (.int .i64 t827)) (fun _ hk => hk.2) (.slice Ao43 t828.length co43)) (fun _ h_ => h_.1)))); (case side2 => exact (Kd.zh HO830.out).2.1); rintro e w44 ⟨v833, rfl, ho0, hb⟩; have n0_ := Aside0.mk (Kd.zU (by refine sqR ?_; exact (Kd.zu (Kd.zC (p := ⟨gb831, 1, none⟩) (Kd.zC (p := ⟨gb831, 0, none⟩) (Kd.zK HO820.out BK831.out (by decide)) (fun _ hk => hk.2) (.int .i64 t827)) (fun _ hk => hk.2) (.slice Ao43 t828.length co43)) (fun _ h_ => h_.1))) (Kd.qt ho0) hb); have n1_ := Aside0.mk (Kd.zU (by refine sqR ?_; exact (Kd.zu (Kd.zC (p := ⟨gb831, 1, none⟩) (Kd.zC (p := ⟨gb831, 0, none⟩) (Kd.zK HO824.out BK831.out (by decide)) (fun _ hk => hk.2) (.int .i64 t827)) (fun _ hk => hk.2) (.slice Ao43 t828.length co43)) (fun _ h_ => h_.1))) (Kd.qt ho0) hb); have n2_ := Aside0.mk (Kd.zU (by refine sqR ?_; exact (Kd.zu (Kd.zC (p := ⟨gb831, 1, none⟩) (Kd.zC (p := ⟨gb831, 0, none⟩) (Kd.zK HO830.out BK831.out (by decide)) (fun _ hk => hk.2) (.int .i64 t827)) (fun _ hk => hk.2) (.slice Ao43 t828.length co43)) (fun _ h_ => h_.1))) (Kd.qt ho0) hb); have n3_ := Aside0.mk (Kd.zD (Kd.qu (Kd.qu (Kd.qu ho0 (Kd.jd (by refine sqR ?_; exact (Kd.zu (Kd.zC (p := ⟨gb831, 1, none⟩) (Kd.zC (p := ⟨gb831, 0, none⟩) (Kd.zK HO820.out BK831.out (by decide)) (fun _ hk => hk.2) (.int .i64 t827)) (fun _ hk => hk.2) (.slice Ao43 t828.length co43)) (fun _ h_ => h_.1))))) (Kd.jd (by refine sqR ?_; exact (Kd.zu (Kd.zC (p := ⟨gb831, 1, none⟩) (Kd.zC (p := ⟨gb831, 0, none⟩) (Kd.zK HO824.out BK831.out (by decide)) (fun _ hk => hk.2) (.int .i64 t827)) (fun _ hk => hk.2) (.slice Ao43 t828.length co43)) (fun _ h_ => h_.1))))) (Kd.jd (by refine sqR ?_; exact (Kd.zu (Kd.zC (p := ⟨gb831, 1, none⟩) (Kd.zC (p := ⟨gb831, 0, none⟩) (Kd.zK HO830.out BK831.out (by decide)) (fun _ hk => hk.2) (.int .i64 t827)) (fun _ hk => hk.2) (.slice Ao43 t828.length co43)) (fun _ h_ => h_.1))))) (zg sqB)); have n4_ := Aside0.mk (ze (g := gb816) (o := .cells #[.int .i64 0, .slice none 0 0] 27 (0, 0)) (by refine sqK ?_; refine qk ?_ NB816_831.out _; refine sqK ?_; refine qk ?_ NB816_831.out _; refine sqK ?_; exact BK816.out) hb); have n5_ := Aside0.mk (ze (g := gb826) (o := .cells #[.int .i64 t821, .slice Ao37 t822.length co37] 27 (0, 0)) (by refine sqK ?_; refine qk ?_ NB826_831.out _; refine sqK ?_; refine qk ?_ NB826_831.out _; refine sqK ?_; exact BK826.out) hb); have n6_ := Aside0.mk (ze (g := gb831) (o := .cells #[.int .i64 t827, .slice Ao43 t828.length co43] 27 (0, 0)) (by refine sqK ?_; refine zB (cs := #[.int .i64 t827, .slice none 0 0]) ?_ 1 _ rfl; refine sqK ?_; refine zB (cs := #[.int .i64 0, .slice none 0 0]) ?_ 0 _ rfl; refine sqK ?_; exact BK831.out) hb); have n7_ := Aside0.mk (zc sqB hb); clear HO820; clear HO824; clear HO830; clear BK816; clear BK826; clear BK831; clear HB; have HO820 := n0_; have HO824 := n1_; have HO830 := n2_; have HO834 := n3_; have BK816 := n4_; have BK826 := n5_; have BK831 := n6_; have HB := n7_; clear n0_ n1_ n2_ n3_ n4_ n5_ n6_ n7_; (try clear hb); (try clear hb2); (try clear hk); (try clear hi); (try clear ho0); obtain ⟨Ao45, co45, eo45⟩ := Kd.zR HO834.out; subst eo45) | (go_at_call 54; (try simp only [zj, zo]); (with_reducible refine (zq.calls k _ _ t832 _ _ l1 false _ ?side1 ?side2 ?side3 ?side4 A10.out).mono ?_); (case side1 => exact sqC (Kd.zh HO834.out).2.2); (case side2 => exact (Kd.zh HO834.out).2.1); (case side3 => exact sqC (Kd.zp HR1.out HB.out)); (case side4 => exact HC1.out); rintro e w' ⟨rfl, ⟨nd, rfl⟩⟩; (try (rw [qz w44]; generalize hq_ : World.drewN w44 _ = w44; have n0_ : Aside0 (Kd.R (Kd.int .i64) 3 w44 w.heap.size (fun k_ => some k_ ≠ (.slice Ao37 t822.length co37 : Value).ownBlock ∧ some k_ ≠ (.slice Ao43 t828.length co43 : Value).ownBlock ∧ some k_ ≠ (.slice Ao45 t832.length co45 : Value).ownBlock) (.slice Ao32 t818.length co32) t818) := ⟨by rw [← hq_]; exact (by refine sqR ?_; exact Kd.zu HO820.out (fun _ hk => by first | exact ⟨hk.1.1.2, ⟨hk.1.2, hk.2⟩⟩ | (refine ⟨?_, ?_, ?_⟩ <;> intro e_ <;> simp only [e_, ne_eq, not_true_eq_false, and_false, false_and] at hk)))⟩; have n1_ : Aside0 (Kd.R (Kd.int .i64) 3 w44 w.heap.size (fun k_ => some k_ ≠ (.slice Ao32 t818.length co32 : Value).ownBlock ∧ some k_ ≠ (.slice Ao43 t828.length co43 : Value).ownBlock ∧ some k_ ≠ (.slice Ao45 t832.length co45 : Value).ownBlock) (.slice Ao37 t822.length co37) t822) := ⟨by rw [← hq_]; exact (by refine sqR ?_; exact Kd.zu HO824.out (fun _ hk => by first | exact ⟨hk.1.1.2, ⟨hk.1.2, hk.2⟩⟩ | (refine ⟨?_, ?_, ?_⟩ <;> intro e_ <;> simp only [e_, ne_eq, not_true_eq_false, and_false, false_and] at hk)))⟩; have n2_ : Aside0 (Kd.R (Kd.int .i64) 3 w44 w.heap.size (fun k_ => some k_ ≠ (.slice Ao32 t818.length co32 : Value).ownBlock ∧ some k_ ≠ (.slice Ao37 t822.length co37 : Value).ownBlock ∧ some k_ ≠ (.slice Ao45 t832.length co45 : Value).ownBlock) (.slice Ao43 t828.length co43) t828) := ⟨by rw [← hq_]; exact (by refine sqR ?_; exact Kd.zu HO830.out (fun _ hk => by first | exact ⟨hk.1.1.2, ⟨hk.1.2, hk.2⟩⟩ | (refine ⟨?_, ?_, ?_⟩ <;> intro e_ <;> simp only [e_, ne_eq, not_true_eq_false, and_false, false_and] at hk)))⟩; have n3_ : Aside0 (Kd.R (Kd.int .i64) 3 w44 w.heap.size (fun k_ => some k_ ≠ (.slice Ao32 t818.length co32 : Value).ownBlock ∧ some k_ ≠ (.slice Ao37 t822.length co37 : Value).ownBlock ∧ some k_ ≠ (.slice Ao43 t828.length co43 : Value).ownBlock) (.slice Ao45 t832.length co45) t832) := ⟨by rw [← hq_]; exact (by refine sqR ?_; exact Kd.zu HO834.out (fun _ hk => by first | exact ⟨hk.1.1.2, ⟨hk.1.2, hk.2⟩⟩ | (refine ⟨?_, ?_, ?_⟩ <;> intro e_ <;> simp only [e_, ne_eq, not_true_eq_false, and_false, false_and] at hk)))⟩; have n4_ : Aside0 (w44.heap[gb816]? = some (.cells #[.int .i64 0, .slice none 0 0] 27 (0, 0))) := ⟨by rw [← hq_]; exact (sqK BK816.out)⟩; have n5_ : Aside0 (w44.heap[gb826]? = some (.cells #[.int .i64 t821, .slice Ao37 t822.length co37] 27 (0, 0))) := ⟨by rw [← hq_]; exact (sqK BK826.out)⟩; have n6_ : Aside0 (w44.heap[gb831]? = some (.cells #[.int .i64 t827, .slice Ao43 t828.length co43] 27 (0, 0))) := ⟨by rw [← hq_]; exact (sqK BK831.out)⟩; have n7_ : Aside0 (Below w.heap.size w w44) := ⟨by rw [← hq_]; exact sqB⟩; clear HO820 HO824 HO830 HO834 BK816 BK826 BK831 HB hq_; have HO820 := n0_; have HO824 := n1_; have HO830 := n2_; have HO834 := n3_; have BK816 := n4_; have BK826 := n5_; have BK831 := n6_; have HB := n7_; clear n0_ n1_ n2_ n3_ n4_ n5_ n6_ n7_; have hczqgb816_0 : w44.cell? ⟨gb816, 0, none⟩ = some (.int .i64 0) := (zb BK816.out 0).trans rfl; have hfzqgb816_0 := za BK816.out 0; have hczqgb816_1 : w44.cell? ⟨gb816, 1, none⟩ = some (.slice none 0 0) := (zb BK816.out 1).trans rfl; have hfzqgb816_1 := za BK816.out 1; have hczqgb826_0 : w44.cell? ⟨gb826, 0, none⟩ = some (.int .i64 t821) := (zb BK826.out 0).trans rfl; have hfzqgb826_0 := za BK826.out 0; have hczqgb826_1 : w44.cell? ⟨gb826, 1, none⟩ = some (.slice Ao37 t822.length co37) := (zb BK826.out 1).trans rfl; have hfzqgb826_1 := za BK826.out 1; have hczqgb831_0 : w44.cell? ⟨gb831, 0, none⟩ = some (.int .i64 t827) := (zb BK831.out 0).trans rfl; have hfzqgb831_0 := za BK831.out 0; have hczqgb831_1 : w44.cell? ⟨gb831, 1, none⟩ = some (.slice Ao43 t828.length co43) := (zb BK831.out 1).trans rfl; have hfzqgb831_1 := za BK831.out 1)); have hcz46_0 : w44.cell? ⟨gb816, 0, none⟩ = some (.int .i64 0) := (zb BK816.out 0).trans rfl; have hcz46_1 : w44.cell? ⟨gb816, 1, none⟩ = some (.slice none 0 0) := (zb BK816.out 1).trans rfl; have hfz46_0 := za BK816.out 0; have hfz46_1 := za BK816.out 1))
    refine bodyPost_ret (qG rfl _ _ gb816 27 #[.int .i64 0, .slice none 0 0] (0, 0) _ rfl (by refine sqK ?_; refine zB (cs := #[.int .i64 0, .slice none 0 0]) ?_ 1 _ rfl; refine sqK ?_; refine zB (cs := #[.int .i64 0, .slice none 0 0]) ?_ 0 _ rfl; refine sqK ?_; exact BK816.out) Try.underlying27 rfl (by kernel_rfl)) rfl ?_
    exact ⟨_, sqE, sqN, sqB⟩
  ·replace c8 := Bool.eq_false_iff.mpr c8
   subst c8
   have H1 : (some (0, ([] : List Int), false)) = some (r1, r2, r3) := by rw [if_neg (show ¬ (false = true) by decide)] at H; exact H
   clear H
   have H := H1
   clear H1
   simp only [Option.some.injEq, Prod.mk.injEq] at H
   obtain ⟨rfl, rfl, rfl⟩ := H
   go_enter Try.func35, Try.ntmps35
   go_wp2_with (first | ((with_reducible refine zi (N := 4) rfl ?_); refine zl ?hg (N := 4) ?hd (cs := #[.int .i64 0, .slice none 0 0]) (t := 27) ?hr ?_; (case hd => rfl); (case hg => rfl); (case hr => exact sqG); intro gb816 hg w47 hbox hb; have n0_ := Aside0.mk (zc sqB hb); have n1_ := Aside0.mk (hbox); have n2_ := Aside0.mk ((sqS hg : w.heap.size ≤ gb816)); have n3_ := Aside0.mk ((sqS hg : w.heap.size ≤ gb816)); clear HB; have HB := n0_; have BK816 := n1_; have GW816 := n2_; have GE816 := n3_; clear n0_ n1_ n2_ n3_; clear hb hbox hg) | ((with_reducible refine zd (f := 52) rfl ?_); refine zn (some 11) rfl rfl Try.func52 (by kernel_rfl) rfl #[.int .i64 a0, .slice A1 l1.length c1] rfl sqM ?_; (with_reducible refine (zE.calls k a0 _ _ l1 true _ ?side1 ?side2 A3.out).mono ?_); (case side1 => exact sqC (Kd.zp HR1.out HB.out)); (case side2 => exact HC1.out); rintro e w' ⟨rfl, ⟨nd, rfl⟩⟩; refine ⟨_, rfl, ?_⟩; (try (rw [qz w47]; generalize hq_ : World.drewN w47 _ = w47; have n0_ : Aside0 (w47.heap[gb816]? = some (.cells #[.int .i64 0, .slice none 0 0] 27 (0, 0))) := ⟨by rw [← hq_]; exact (sqK BK816.out)⟩; have n1_ : Aside0 (Below w.heap.size w w47) := ⟨by rw [← hq_]; exact sqB⟩; clear BK816 HB hq_; have BK816 := n0_; have HB := n1_; clear n0_ n1_; have hczqgb816_0 : w47.cell? ⟨gb816, 0, none⟩ = some (.int .i64 0) := (zb BK816.out 0).trans rfl; have hfzqgb816_0 := za BK816.out 0; have hczqgb816_1 : w47.cell? ⟨gb816, 1, none⟩ = some (.slice none 0 0) := (zb BK816.out 1).trans rfl; have hfzqgb816_1 := za BK816.out 1))) | ((with_reducible refine zd (f := 73) rfl ?_); refine zn (some 18) rfl rfl Try.func73 (by kernel_rfl) rfl #[.int .i64 a0, .slice A1 l1.length c1] rfl sqM ?_; (with_reducible refine (zG.calls k a0 _ _ l1 t818 _ ?side1 ?side2 A5.out).mono ?_); (case side1 => exact sqC (Kd.zp HR1.out HB.out)); (case side2 => exact HC1.out); rintro e w48 ⟨v819, rfl, ho0, hb⟩; refine ⟨_, rfl, ?_⟩; have n0_ := Aside0.mk (Kd.zD ho0 (zg sqB)); have n1_ := Aside0.mk (ze (g := gb816) (o := .cells #[.int .i64 0, .slice none 0 0] 27 (0, 0)) (sqK BK816.out) hb); have n2_ := Aside0.mk (zc sqB hb); clear BK816; clear HB; have HO820 := n0_; have BK816 := n1_; have HB := n2_; clear n0_ n1_ n2_; (try clear hb); (try clear hb2); (try clear hk); (try clear hi); (try clear ho0); obtain ⟨Ao49, co49, eo49⟩ := Kd.zR HO820.out; subst eo49) | ((with_reducible refine zd (f := 72) rfl ?_); refine zn (some 19) rfl rfl Try.func72 (by kernel_rfl) rfl #[.int .i64 a0, .slice Ao49 t818.length co49] rfl sqM ?_; (with_reducible refine (zX.calls k a0 _ _ t818 t821 t822 false _ ?side1 ?side2 A6.out).mono ?_); (case side1 => exact sqC (Kd.zh HO820.out).2.2); (case side2 => exact (Kd.zh HO820.out).2.1); rintro e w50 ⟨v823, rfl, ho0, hb⟩; refine ⟨_, rfl, ?_⟩; have n0_ := Aside0.mk (Kd.zU (sqR HO820.out) (Kd.qt ho0) hb); have n1_ := Aside0.mk (Kd.zD (Kd.qu ho0 (Kd.jd (sqR HO820.out))) (zg sqB)); have n2_ := Aside0.mk (ze (g := gb816) (o := .cells #[.int .i64 0, .slice none 0 0] 27 (0, 0)) (sqK BK816.out) hb); have n3_ := Aside0.mk (zc sqB hb); clear HO820; clear BK816; clear HB; have HO820 := n0_; have HO824 := n1_; have BK816 := n2_; have HB := n3_; clear n0_ n1_ n2_ n3_; (try clear hb); (try clear hb2); (try clear hk); (try clear hi); (try clear ho0)) | ((with_reducible refine zi (N := 6) rfl ?_); refine zl ?hg (N := 6) ?hd (cs := #[.int .i64 0, .slice none 0 0]) (t := 27) ?hr ?_; (case hd => rfl); (case hg => rfl); (case hr => exact sqG); intro gb826 hg w51 hbox hb; have n0_ := Aside0.mk (Kd.zz (sqR HO820.out) hb); have n1_ := Aside0.mk (Kd.zz (sqR HO824.out) hb); have n2_ := Aside0.mk (ze (g := gb816) (o := .cells #[.int .i64 0, .slice none 0 0] 27 (0, 0)) (sqK BK816.out) hb); have n3_ := Aside0.mk (zc sqB hb); have n4_ := Aside0.mk (hbox); have n5_ := Aside0.mk ((sqS hg : w.heap.size ≤ gb826)); have n6_ := Aside0.mk ((sqS hg : w.heap.size ≤ gb826)); have n7_ := Aside0.mk ((by rw [hg]; exact Nat.ne_of_lt (zV (g := gb816) (o := .cells #[.int .i64 0, .slice none 0 0] 27 (0, 0)) (sqK BK816.out)) : gb816 ≠ gb826)); have n8_ := Aside0.mk ((by rw [hg]; exact Nat.ne_of_gt (zV (g := gb816) (o := .cells #[.int .i64 0, .slice none 0 0] 27 (0, 0)) (sqK BK816.out)) : gb826 ≠ gb816)); clear HO820; clear HO824; clear BK816; clear HB; have HO820 := n0_; have HO824 := n1_; have BK816 := n2_; have HB := n3_; have BK826 := n4_; have GW826 := n5_; have GE826 := n6_; have NB816_826 := n7_; have NB826_816 := n8_; clear n0_ n1_ n2_ n3_ n4_ n5_ n6_ n7_ n8_; clear hb hbox hg; have hnb52 := NB826_816.out; have hnc52 := NB816_826.out; have hcz53_0 : w51.cell? ⟨gb826, 0, none⟩ = some (.int .i64 0) := (zb BK826.out 0).trans rfl; have hcz53_1 : w51.cell? ⟨gb826, 1, none⟩ = some (.slice none 0 0) := (zb BK826.out 1).trans rfl; have hfz53_0 := za BK826.out 0; have hfz53_1 := za BK826.out 1; obtain ⟨Ao54, co54, eo54⟩ := Kd.zR HO824.out; subst eo54) | ((with_reducible refine zd (f := 58) rfl ?_); refine zn (some 23) rfl rfl Try.func58 (by kernel_rfl) rfl #[.agg #[.int .i64 t821, .slice Ao54 t822.length co54]] rfl sqM ?_; (with_reducible refine (qF.calls k t821 _ _ t822 t827 t828 _ ?side1 ?side2 A7.out).mono ?_); (case side1 => refine (Kd.zh (e := 3) (base := w.heap.size) (ok := fun k_ => (True ∧ some k_ ≠ (.slice Ao49 t818.length co49 : Value).ownBlock)) (n := t822.length) (c := co54) ?_).2.2; exact (by refine sqR ?_; exact (Kd.zu (Kd.zC (p := ⟨gb826, 1, none⟩) (Kd.zC (p := ⟨gb826, 0, none⟩) (Kd.zK HO824.out BK826.out (by decide)) (fun _ hk => hk.2) (.int .i64 t821)) (fun _ hk => hk.2) (.slice Ao54 t822.length co54)) (fun _ h_ => h_.1)))); (case side2 => exact (Kd.zh HO824.out).2.1); rintro e w55 ⟨v829, rfl, ho0, hb⟩; refine ⟨_, rfl, ?_⟩; have n0_ := Aside0.mk (Kd.zU (by refine sqR ?_; exact (Kd.zu (Kd.zC (p := ⟨gb826, 1, none⟩) (Kd.zC (p := ⟨gb826, 0, none⟩) (Kd.zK HO820.out BK826.out (by decide)) (fun _ hk => hk.2) (.int .i64 t821)) (fun _ hk => hk.2) (.slice Ao54 t822.length co54)) (fun _ h_ => h_.1))) (Kd.qt ho0) hb); have n1_ := Aside0.mk (Kd.zU (by refine sqR ?_; exact (Kd.zu (Kd.zC (p := ⟨gb826, 1, none⟩) (Kd.zC (p := ⟨gb826, 0, none⟩) (Kd.zK HO824.out BK826.out (by decide)) (fun _ hk => hk.2) (.int .i64 t821)) (fun _ hk => hk.2) (.slice Ao54 t822.length co54)) (fun _ h_ => h_.1))) (Kd.qt ho0) hb); have n2_ := Aside0.mk (Kd.zD (Kd.qu (Kd.qu ho0 (Kd.jd (by refine sqR ?_; exact (Kd.zu (Kd.zC (p := ⟨gb826, 1, none⟩) (Kd.zC (p := ⟨gb826, 0, none⟩) (Kd.zK HO820.out BK826.out (by decide)) (fun _ hk => hk.2) (.int .i64 t821)) (fun _ hk => hk.2) (.slice Ao54 t822.length co54)) (fun _ h_ => h_.1))))) (Kd.jd (by refine sqR ?_; exact (Kd.zu (Kd.zC (p := ⟨gb826, 1, none⟩) (Kd.zC (p := ⟨gb826, 0, none⟩) (Kd.zK HO824.out BK826.out (by decide)) (fun _ hk => hk.2) (.int .i64 t821)) (fun _ hk => hk.2) (.slice Ao54 t822.length co54)) (fun _ h_ => h_.1))))) (zg sqB)); have n3_ := Aside0.mk (ze (g := gb816) (o := .cells #[.int .i64 0, .slice none 0 0] 27 (0, 0)) (by refine sqK ?_; refine qk ?_ NB816_826.out _; refine sqK ?_; refine qk ?_ NB816_826.out _; refine sqK ?_; exact BK816.out) hb); have n4_ := Aside0.mk (ze (g := gb826) (o := .cells #[.int .i64 t821, .slice Ao54 t822.length co54] 27 (0, 0)) (by refine sqK ?_; refine zB (cs := #[.int .i64 t821, .slice none 0 0]) ?_ 1 _ rfl; refine sqK ?_; refine zB (cs := #[.int .i64 0, .slice none 0 0]) ?_ 0 _ rfl; refine sqK ?_; exact BK826.out) hb); have n5_ := Aside0.mk (zc sqB hb); clear HO820; clear HO824; clear BK816; clear BK826; clear HB; have HO820 := n0_; have HO824 := n1_; have HO830 := n2_; have BK816 := n3_; have BK826 := n4_; have HB := n5_; clear n0_ n1_ n2_ n3_ n4_ n5_; (try clear hb); (try clear hb2); (try clear hk); (try clear hi); (try clear ho0)) | ((with_reducible refine zi (N := 8) rfl ?_); refine zl ?hg (N := 8) ?hd (cs := #[.int .i64 0, .slice none 0 0]) (t := 27) ?hr ?_; (case hd => rfl); (case hg => rfl); (case hr => exact sqG); intro gb831 hg w56 hbox hb; have n0_ := Aside0.mk (Kd.zz (sqR HO820.out) hb); have n1_ := Aside0.mk (Kd.zz (sqR HO824.out) hb); have n2_ := Aside0.mk (Kd.zz (sqR HO830.out) hb); have n3_ := Aside0.mk (ze (g := gb816) (o := .cells #[.int .i64 0, .slice none 0 0] 27 (0, 0)) (sqK BK816.out) hb); have n4_ := Aside0.mk (ze (g := gb826) (o := .cells #[.int .i64 t821, .slice Ao54 t822.length co54] 27 (0, 0)) (sqK BK826.out) hb); have n5_ := Aside0.mk (zc sqB hb); have n6_ := Aside0.mk (hbox); have n7_ := Aside0.mk ((sqS hg : w.heap.size ≤ gb831)); have n8_ := Aside0.mk ((sqS hg : w.heap.size ≤ gb831)); have n9_ := Aside0.mk ((by rw [hg]; exact Nat.ne_of_lt (zV (g := gb816) (o := .cells #[.int .i64 0, .slice none 0 0] 27 (0, 0)) (sqK BK816.out)) : gb816 ≠ gb831)); have n10_ := Aside0.mk ((by rw [hg]; exact Nat.ne_of_gt (zV (g := gb816) (o := .cells #[.int .i64 0, .slice none 0 0] 27 (0, 0)) (sqK BK816.out)) : gb831 ≠ gb816)); have n11_ := Aside0.mk ((by rw [hg]; exact Nat.ne_of_lt (zV (g := gb826) (o := .cells #[.int .i64 t821, .slice Ao54 t822.length co54] 27 (0, 0)) (sqK BK826.out)) : gb826 ≠ gb831)); have n12_ := Aside0.mk ((by rw [hg]; exact Nat.ne_of_gt (zV (g := gb826) (o := .cells #[.int .i64 t821, .slice Ao54 t822.length co54] 27 (0, 0)) (sqK BK826.out)) : gb831 ≠ gb826)); clear HO820; clear HO824; clear HO830; clear BK816; clear BK826; clear HB; have HO820 := n0_; have HO824 := n1_; have HO830 := n2_; have BK816 := n3_; have BK826 := n4_; have HB := n5_; have BK831 := n6_; have GW831 := n7_; have GE831 := n8_; have NB816_831 := n9_; have NB831_816 := n10_; have NB826_831 := n11_; have NB831_826 := n12_; clear n0_ n1_ n2_ n3_ n4_ n5_ n6_ n7_ n8_ n9_ n10_ n11_ n12_; clear hb hbox hg; have hnb57 := NB831_816.out; have hnc57 := NB816_831.out; have hnb58 := NB831_826.out; have hnc58 := NB826_831.out; have hcz59_0 : w56.cell? ⟨gb831, 0, none⟩ = some (.int .i64 0) := (zb BK831.out 0).trans rfl; have hcz59_1 : w56.cell? ⟨gb831, 1, none⟩ = some (.slice none 0 0) := (zb BK831.out 1).trans rfl; have hfz59_0 := za BK831.out 0; have hfz59_1 := za BK831.out 1; obtain ⟨Ao60, co60, eo60⟩ := Kd.zR HO830.out; subst eo60; have hcz61_0 : w56.cell? ⟨gb816, 0, none⟩ = some (.int .i64 0) := (zb BK816.out 0).trans rfl; have hcz61_1 : w56.cell? ⟨gb816, 1, none⟩ = some (.slice none 0 0) := (zb BK816.out 1).trans rfl; have hfz61_0 := za BK816.out 0; have hfz61_1 := za BK816.out 1))
   refine bodyPost_ret (qG rfl _ _ gb816 27 #[.int .i64 0, .slice none 0 0] (0, 0) _ rfl (by refine sqK ?_; refine zB (cs := #[.int .i64 0, .slice none 0 0]) ?_ 1 _ rfl; refine sqK ?_; refine zB (cs := #[.int .i64 0, .slice none 0 0]) ?_ 0 _ rfl; refine sqK ?_; refine qk ?_ NB816_831.out _; refine sqK ?_; refine qk ?_ NB816_831.out _; refine sqK ?_; exact BK816.out) Try.underlying27 rfl (by kernel_rfl)) rfl ?_
   exact ⟨_, sqE, sqN, sqB⟩
 ·replace c4 := Bool.eq_false_iff.mpr c4
  subst c4
  have H1 : (some (0, ([] : List Int), false)) = some (r1, r2, r3) := by rw [if_neg (show ¬ (false = true) by decide)] at H; exact H
  clear H
  have H := H1
  clear H1
  simp only [Option.some.injEq, Prod.mk.injEq] at H
  obtain ⟨rfl, rfl, rfl⟩ := H
  go_enter Try.func35, Try.ntmps35
  go_wp2_with (first | ((with_reducible refine zi (N := 4) rfl ?_); refine zl ?hg (N := 4) ?hd (cs := #[.int .i64 0, .slice none 0 0]) (t := 27) ?hr ?_; (case hd => rfl); (case hg => rfl); (case hr => exact sqG); intro gb816 hg w62 hbox hb; have n0_ := Aside0.mk (zc sqB hb); have n1_ := Aside0.mk (hbox); have n2_ := Aside0.mk ((sqS hg : w.heap.size ≤ gb816)); have n3_ := Aside0.mk ((sqS hg : w.heap.size ≤ gb816)); clear HB; have HB := n0_; have BK816 := n1_; have GW816 := n2_; have GE816 := n3_; clear n0_ n1_ n2_ n3_; clear hb hbox hg) | ((with_reducible refine zd (f := 52) rfl ?_); refine zn (some 11) rfl rfl Try.func52 (by kernel_rfl) rfl #[.int .i64 a0, .slice A1 l1.length c1] rfl sqM ?_; (with_reducible refine (zE.calls k a0 _ _ l1 false _ ?side1 ?side2 A3.out).mono ?_); (case side1 => exact sqC (Kd.zp HR1.out HB.out)); (case side2 => exact HC1.out); rintro e w' ⟨rfl, ⟨nd, rfl⟩⟩; refine ⟨_, rfl, ?_⟩; (try (rw [qz w62]; generalize hq_ : World.drewN w62 _ = w62; have n0_ : Aside0 (w62.heap[gb816]? = some (.cells #[.int .i64 0, .slice none 0 0] 27 (0, 0))) := ⟨by rw [← hq_]; exact (sqK BK816.out)⟩; have n1_ : Aside0 (Below w.heap.size w w62) := ⟨by rw [← hq_]; exact sqB⟩; clear BK816 HB hq_; have BK816 := n0_; have HB := n1_; clear n0_ n1_; have hczqgb816_0 : w62.cell? ⟨gb816, 0, none⟩ = some (.int .i64 0) := (zb BK816.out 0).trans rfl; have hfzqgb816_0 := za BK816.out 0; have hczqgb816_1 : w62.cell? ⟨gb816, 1, none⟩ = some (.slice none 0 0) := (zb BK816.out 1).trans rfl; have hfzqgb816_1 := za BK816.out 1)); have hcz63_0 : w62.cell? ⟨gb816, 0, none⟩ = some (.int .i64 0) := (zb BK816.out 0).trans rfl; have hcz63_1 : w62.cell? ⟨gb816, 1, none⟩ = some (.slice none 0 0) := (zb BK816.out 1).trans rfl; have hfz63_0 := za BK816.out 0; have hfz63_1 := za BK816.out 1))
  refine bodyPost_ret (qG rfl _ _ gb816 27 #[.int .i64 0, .slice none 0 0] (0, 0) _ rfl (by refine sqK ?_; refine zB (cs := #[.int .i64 0, .slice none 0 0]) ?_ 1 _ rfl; refine sqK ?_; refine zB (cs := #[.int .i64 0, .slice none 0 0]) ?_ 0 _ rfl; refine sqK ?_; exact BK816.out) Try.underlying27 rfl (by kernel_rfl)) rfl ?_
  exact ⟨_, sqE, sqN, sqB⟩

end Go.Proofs.Yteggmbhcnhbamaa.F
end
section
namespace Go.Proofs.Yteggmbhcnhbamaa.F
open Go.RowKit Go.Proofs.YteggmbhcnhbamaaW.PrintWords Go.Proofs.YteggmbhcnhbamaaW.PrintLast Go.Proofs.YteggmbhcnhbamaaW.PrintMore
attribute [local go_sem] qJ qM q2 q4 qy qx qL qK   -- for this text's walks alone
set_option linter.unusedVariables false
set_option linter.unusedSimpArgs false

mutual
def zf.j0 : Nat → Int → List Int → Bool → List Int → Bool → Bool → Int → List Int → Int → List Int → Option (Bool)
 | 0, _, _, _, _, _, _, _, _, _, _ => none
 | k + 1, x0, x1, x6, x7, x9, x41, x845000, x845001, x854000, x854001 => if x41 = true then (none) else ((qg.f k x1).bind fun t855 => ((qX.f k x7 t855).bind fun t858 => (if t858 = true then ((qp.f k x7 1).bind fun bt859 => (if bt859.1 < 0 then (zf.j1 k x0 x1 x6 true x845000 x845001 x854000 x854001) else ((z8.f k x854000 x854001 x845000 x845001).bind fun t861 => (if t861 = true then (zf.j1 k x0 x1 x6 (x9 != x6) x845000 x845001 x854000 x854001) else (zf.j1 k x0 x1 x6 true x845000 x845001 x854000 x854001))))) else (none))))
def zf.j1 : Nat → Int → List Int → Bool → Bool → Int → List Int → Int → List Int → Option (Bool)
 | 0, _, _, _, _, _, _, _, _ => none
 | k + 1, x0, x1, x6, x62, x845000, x845001, x854000, x854001 => if x62 = true then (none) else ((jw.f k x854000 x854001 1).bind fun bt862 => ((ja.f k x854000 bt862.2 1).bind fun t864 => (if t864 < 0 then (none) else (if t864 = bt862.1 then ((qg.f k x1).bind fun t865 => ((qj.f k x0 t865).bind fun bt868 => ((z8.f k bt868.1 bt868.2.1 x845000 x845001).bind fun t874 => (if t874 = true then (zf.j2 k bt862.1 (bt868.2.2 != x6) x854000 bt862.2) else (zf.j2 k bt862.1 true x854000 bt862.2))))) else (none)))))
def zf.j2 : Nat → Int → Bool → Int → List Int → Option (Bool)
 | 0, _, _, _, _ => none
 | k + 1, x11, x89, x854000, x854001 => if x89 = true then (none) else ((ja.f k x854000 x854001 1).bind fun t875 => (if t875 < 0 then (none) else (if t875 = x11 then (some true) else (none))))
end
def zf.f (k : Nat) (a0 : Int) (l1 : List Int) : Option (Bool) := if (l1.length : Int) > 1048576 then (some true) else ((qg.f k l1).bind fun t836 => ((zI.f k a0 t836).bind fun bt839 => ((qg.f k l1).bind fun t845 => ((qj.f k a0 t845).bind fun bt848 => ((z8.f k bt848.1 bt848.2.1 bt839.1 bt839.2.1).bind fun t854 => (if t854 = true then (zf.j0 k a0 l1 bt839.2.2 t845 bt848.2.2 (bt848.2.2 != bt839.2.2) bt839.1 bt839.2.1 bt848.1 bt848.2.1) else (zf.j0 k a0 l1 bt839.2.2 t845 bt848.2.2 true bt839.1 bt839.2.1 bt848.1 bt848.2.1)))))))
theorem zf.calls (k : Nat) (a0 : Int) (A1 : Option Addr) (c1 : Nat) (l1 : List Int) (r : Bool) (w : World) (hr1 : Kd.C (Kd.int .i64) w A1 l1.length l1) (hc1 : l1.length ≤ c1) (h : zf.f k a0 l1 = some r) :
  Calls Try.prog 10 #[.int .i64 a0, .slice A1 l1.length c1] w fun e w' => e = .returned (.bool r) ∧ Below w.heap.size w w' := by
 have hu27 := Try.underlying27
 have HR1 := Aside0.mk hr1
 have HC1 := Aside0.mk hc1
 clear hr1 hc1
 have HB := Aside0.mk (Below.refl w.heap.size w)
 have H : (if (l1.length : Int) > 1048576 then (some true) else ((qg.f k l1).bind fun t836 => ((zI.f k a0 t836).bind fun bt839 => ((qg.f k l1).bind fun t845 => ((qj.f k a0 t845).bind fun bt848 => ((z8.f k bt848.1 bt848.2.1 bt839.1 bt839.2.1).bind fun t854 => (if t854 = true then (zf.j0 k a0 l1 bt839.2.2 t845 bt848.2.2 (bt848.2.2 != bt839.2.2) bt839.1 bt839.2.1 bt848.1 bt848.2.1) else (zf.j0 k a0 l1 bt839.2.2 t845 bt848.2.2 true bt839.1 bt839.2.1 bt848.1 bt848.2.1)))))))) = some r := h
 clear h
 by_cases c3 : (l1.length : Int) > 1048576
 ·rw [if_pos c3] at H
  have c3b0 : decide (1048576 < (l1.length : Int)) = true := decide_eq_true c3
  have c3b1 : decide (1048576 < l1.length) = true := decide_eq_true (by omega)
  clear c3
  obtain rfl := Option.some.inj H
  go_enter Try.func10, Try.ntmps10
  go_wp2
  go_ret
  exact ⟨sqE, sqB⟩
 ·rw [if_neg c3] at H
  have c3b0 : decide (1048576 < (l1.length : Int)) = false := decide_eq_false c3
  have c3b1 : decide (1048576 < l1.length) = false := decide_eq_false (by omega)
  clear c3
  replace H := Option.bind_eq_some_iff.mp H
  obtain ⟨t836, A40, H⟩ := H
  replace H : ((zI.f k a0 t836).bind fun bt839 => ((qg.f k l1).bind fun t845 => ((qj.f k a0 t845).bind fun bt848 => ((z8.f k bt848.1 bt848.2.1 bt839.1 bt839.2.1).bind fun t854 => (if t854 = true then (zf.j0 k a0 l1 bt839.2.2 t845 bt848.2.2 (bt848.2.2 != bt839.2.2) bt839.1 bt839.2.1 bt848.1 bt848.2.1) else (zf.j0 k a0 l1 bt839.2.2 t845 bt848.2.2 true bt839.1 bt839.2.1 bt848.1 bt848.2.1)))))) = some r := H
  have A4 := Aside0.mk A40
  clear A40
  replace H := Option.bind_eq_some_iff.mp H
  obtain ⟨⟨t839, t840, t843⟩, A50, H⟩ := H
  replace H : ((qg.f k l1).bind fun t845 => ((qj.f k a0 t845).bind fun bt848 => ((z8.f k bt848.1 bt848.2.1 t839 t840).bind fun t854 => (if t854 = true then (zf.j0 k a0 l1 t843 t845 bt848.2.2 (bt848.2.2 != t843) t839 t840 bt848.1 bt848.2.1) else (zf.j0 k a0 l1 t843 t845 bt848.2.2 true t839 t840 bt848.1 bt848.2.1))))) = some r := H
  have A5 := Aside0.mk A50
  clear A50
  replace H := Option.bind_eq_some_iff.mp H
  obtain ⟨t845, A60, H⟩ := H
  replace H : ((qj.f k a0 t845).bind fun bt848 => ((z8.f k bt848.1 bt848.2.1 t839 t840).bind fun t854 => (if t854 = true then (zf.j0 k a0 l1 t843 t845 bt848.2.2 (bt848.2.2 != t843) t839 t840 bt848.1 bt848.2.1) else (zf.j0 k a0 l1 t843 t845 bt848.2.2 true t839 t840 bt848.1 bt848.2.1)))) = some r := H
  have A6 := Aside0.mk A60
  clear A60
  replace H := Option.bind_eq_some_iff.mp H
  obtain ⟨⟨t848, t849, t852⟩, A70, H⟩ := H
  replace H : ((z8.f k t848 t849 t839 t840).bind fun t854 => (if t854 = true then (zf.j0 k a0 l1 t843 t845 t852 (t852 != t843) t839 t840 t848 t849) else (zf.j0 k a0 l1 t843 t845 t852 true t839 t840 t848 t849))) = some r := H
  have A7 := Aside0.mk A70
  clear A70
  have HC8 := Aside0.mk H
  clear H
  go_enter Try.func10, Try.ntmps10
  go_upto_region 6 with (first | ((with_reducible refine zd (f := 21) rfl ?_); refine zn (some 21) rfl rfl Try.func21 (by kernel_rfl) rfl #[.slice A1 l1.length c1] rfl sqM ?_; (with_reducible refine (qg.calls k _ _ l1 t836 _ ?side1 ?side2 A4.out).mono ?_); (case side1 => exact sqC HR1.out); (case side2 => exact HC1.out); rintro e w9 ⟨v837, rfl, ho0, hb⟩; refine ⟨_, rfl, ?_⟩; have n0_ := Aside0.mk (Kd.zD ho0 (zg sqB)); have n1_ := Aside0.mk (zc sqB hb); clear HB; have HO838 := n0_; have HB := n1_; clear n0_ n1_; (try clear hb); (try clear hb2); (try clear hk); (try clear hi); (try clear ho0); obtain ⟨Ao10, co10, eo10⟩ := Kd.zR HO838.out; subst eo10) | ((with_reducible refine zd (f := 34) rfl ?_); refine zn (some 22) rfl rfl Try.func34 (by kernel_rfl) rfl #[.int .i64 a0, .slice Ao10 t836.length co10] rfl sqM ?_; (with_reducible refine (zI.calls k a0 _ _ t836 t839 t840 t843 _ ?side1 ?side2 A5.out).mono ?_); (case side1 => exact sqC (Kd.zh HO838.out).2.2); (case side2 => exact (Kd.zh HO838.out).2.1); rintro e w11 ⟨v841, rfl, ho0, hb⟩; refine ⟨_, rfl, ?_⟩; have n0_ := Aside0.mk (Kd.zU (sqR HO838.out) (Kd.qt ho0) hb); have n1_ := Aside0.mk (Kd.zD (Kd.qu ho0 (Kd.jd (sqR HO838.out))) (zg sqB)); have n2_ := Aside0.mk (zc sqB hb); clear HO838; clear HB; have HO838 := n0_; have HO842 := n1_; have HB := n2_; clear n0_ n1_ n2_; (try clear hb); (try clear hb2); (try clear hk); (try clear hi); (try clear ho0)) | ((with_reducible refine zi (N := 5) rfl ?_); refine zl ?hg (N := 5) ?hd (cs := #[.int .i64 0, .slice none 0 0]) (t := 27) ?hr ?_; (case hd => rfl); (case hg => rfl); (case hr => exact sqG); intro gb844 hg w12 hbox hb; have n0_ := Aside0.mk (Kd.zz (sqR HO838.out) hb); have n1_ := Aside0.mk (Kd.zz (sqR HO842.out) hb); have n2_ := Aside0.mk (zc sqB hb); have n3_ := Aside0.mk (hbox); have n4_ := Aside0.mk ((sqS hg : w.heap.size ≤ gb844)); have n5_ := Aside0.mk ((sqS hg : w.heap.size ≤ gb844)); clear HO838; clear HO842; clear HB; have HO838 := n0_; have HO842 := n1_; have HB := n2_; have BK844 := n3_; have GW844 := n4_; have GE844 := n5_; clear n0_ n1_ n2_ n3_ n4_ n5_; clear hb hbox hg; have hcz13_0 : w12.cell? ⟨gb844, 0, none⟩ = some (.int .i64 0) := (zb BK844.out 0).trans rfl; have hcz13_1 : w12.cell? ⟨gb844, 1, none⟩ = some (.slice none 0 0) := (zb BK844.out 1).trans rfl; have hfz13_0 := za BK844.out 0; have hfz13_1 := za BK844.out 1; obtain ⟨Ao14, co14, eo14⟩ := Kd.zR HO842.out; subst eo14) | ((with_reducible refine zd (f := 21) rfl ?_); refine zn (some 26) rfl rfl Try.func21 (by kernel_rfl) rfl #[.slice A1 l1.length c1] rfl sqM ?_; (with_reducible refine (qg.calls k _ _ l1 t845 _ ?side1 ?side2 A6.out).mono ?_); (case side1 => exact Kd.zp HR1.out sqB); (case side2 => exact HC1.out); rintro e w15 ⟨v846, rfl, ho0, hb⟩; refine ⟨_, rfl, ?_⟩; have n0_ := Aside0.mk (Kd.zU (by refine sqR ?_; exact (Kd.zu (Kd.zC (p := ⟨gb844, 1, none⟩) (Kd.zC (p := ⟨gb844, 0, none⟩) (Kd.zK HO838.out BK844.out (by decide)) (fun _ hk => hk.2) (.int .i64 t839)) (fun _ hk => hk.2) (.slice Ao14 t840.length co14)) (fun _ h_ => h_.1))) (Kd.qt ho0) hb); have n1_ := Aside0.mk (Kd.zU (by refine sqR ?_; exact (Kd.zu (Kd.zC (p := ⟨gb844, 1, none⟩) (Kd.zC (p := ⟨gb844, 0, none⟩) (Kd.zK HO842.out BK844.out (by decide)) (fun _ hk => hk.2) (.int .i64 t839)) (fun _ hk => hk.2) (.slice Ao14 t840.length co14)) (fun _ h_ => h_.1))) (Kd.qt ho0) hb); have n2_ := Aside0.mk (Kd.zD (Kd.qu (Kd.qu ho0 (Kd.jd (by refine sqR ?_; exact (Kd.zu (Kd.zC (p := ⟨gb844, 1, none⟩) (Kd.zC (p := ⟨gb844, 0, none⟩) (Kd.zK HO838.out BK844.out (by decide)) (fun _ hk => hk.2) (.int .i64 t839)) (fun _ hk => hk.2) (.slice Ao14 t840.length co14)) (fun _ h_ => h_.1))))) (Kd.jd (by refine sqR ?_; exact (Kd.zu (Kd.zC (p := ⟨gb844, 1, none⟩) (Kd.zC (p := ⟨gb844, 0, none⟩) (Kd.zK HO842.out BK844.out (by decide)) (fun _ hk => hk.2) (.int .i64 t839)) (fun _ hk => hk.2) (.slice Ao14 t840.length co14)) (fun _ h_ => h_.1))))) (zg sqB)); have n3_ := Aside0.mk (ze (g := gb844) (o := .cells #[.int .i64 t839, .slice Ao14 t840.length co14] 27 (0, 0)) (by refine sqK ?_; refine zB (cs := #[.int .i64 t839, .slice none 0 0]) ?_ 1 _ rfl; refine sqK ?_; refine zB (cs := #[.int .i64 0, .slice none 0 0]) ?_ 0 _ rfl; refine sqK ?_; exact BK844.out) hb); have n4_ := Aside0.mk (zc sqB hb); clear HO838; clear HO842; clear BK844; clear HB; have HO838 := n0_; have HO842 := n1_; have HO847 := n2_; have BK844 := n3_; have HB := n4_; clear n0_ n1_ n2_ n3_ n4_; (try clear hb); (try clear hb2); (try clear hk); (try clear hi); (try clear ho0); obtain ⟨Ao16, co16, eo16⟩ := Kd.zR HO847.out; subst eo16) | ((with_reducible refine zd (f := 35) rfl ?_); refine zn (some 30) rfl rfl Try.func35 (by kernel_rfl) rfl #[.int .i64 a0, .slice Ao16 t845.length co16] rfl sqM ?_; (with_reducible refine (qj.calls k a0 _ _ t845 t848 t849 t852 _ ?side1 ?side2 A7.out).mono ?_); (case side1 => exact sqC (Kd.zh HO847.out).2.2); (case side2 => exact (Kd.zh HO847.out).2.1); rintro e w17 ⟨v850, rfl, ho0, hb⟩; refine ⟨_, rfl, ?_⟩; have n0_ := Aside0.mk (Kd.zU (sqR HO838.out) (Kd.qt ho0) hb); have n1_ := Aside0.mk (Kd.zU (sqR HO842.out) (Kd.qt ho0) hb); have n2_ := Aside0.mk (Kd.zU (sqR HO847.out) (Kd.qt ho0) hb); have n3_ := Aside0.mk (Kd.zD (Kd.qu (Kd.qu (Kd.qu ho0 (Kd.jd (sqR HO838.out))) (Kd.jd (sqR HO842.out))) (Kd.jd (sqR HO847.out))) (zg sqB)); have n4_ := Aside0.mk (ze (g := gb844) (o := .cells #[.int .i64 t839, .slice Ao14 t840.length co14] 27 (0, 0)) (sqK BK844.out) hb); have n5_ := Aside0.mk (zc sqB hb); clear HO838; clear HO842; clear HO847; clear BK844; clear HB; have HO838 := n0_; have HO842 := n1_; have HO847 := n2_; have HO851 := n3_; have BK844 := n4_; have HB := n5_; clear n0_ n1_ n2_ n3_ n4_ n5_; (try clear hb); (try clear hb2); (try clear hk); (try clear hi); (try clear ho0)) | ((with_reducible refine zi (N := 8) rfl ?_); refine zl ?hg (N := 8) ?hd (cs := #[.int .i64 0, .slice none 0 0]) (t := 27) ?hr ?_; (case hd => rfl); (case hg => rfl); (case hr => exact sqG); intro gb853 hg w18 hbox hb; have n0_ := Aside0.mk (Kd.zz (sqR HO838.out) hb); have n1_ := Aside0.mk (Kd.zz (sqR HO842.out) hb); have n2_ := Aside0.mk (Kd.zz (sqR HO847.out) hb); have n3_ := Aside0.mk (Kd.zz (sqR HO851.out) hb); have n4_ := Aside0.mk (ze (g := gb844) (o := .cells #[.int .i64 t839, .slice Ao14 t840.length co14] 27 (0, 0)) (sqK BK844.out) hb); have n5_ := Aside0.mk (zc sqB hb); have n6_ := Aside0.mk (hbox); have n7_ := Aside0.mk ((sqS hg : w.heap.size ≤ gb853)); have n8_ := Aside0.mk ((sqS hg : w.heap.size ≤ gb853)); have n9_ := Aside0.mk ((by rw [hg]; exact Nat.ne_of_lt (zV (g := gb844) (o := .cells #[.int .i64 t839, .slice Ao14 t840.length co14] 27 (0, 0)) (sqK BK844.out)) : gb844 ≠ gb853)); have n10_ := Aside0.mk ((by rw [hg]; exact Nat.ne_of_gt (zV (g := gb844) (o := .cells #[.int .i64 t839, .slice Ao14 t840.length co14] 27 (0, 0)) (sqK BK844.out)) : gb853 ≠ gb844)); clear HO838; clear HO842; clear HO847; clear HO851; clear BK844; clear HB; have HO838 := n0_; have HO842 := n1_; have HO847 := n2_; have HO851 := n3_; have BK844 := n4_; have HB := n5_; have BK853 := n6_; have GW853 := n7_; have GE853 := n8_; have NB844_853 := n9_; have NB853_844 := n10_; clear n0_ n1_ n2_ n3_ n4_ n5_ n6_ n7_ n8_ n9_ n10_; clear hb hbox hg; have hnb19 := NB853_844.out; have hnc19 := NB844_853.out; have hcz20_0 : w18.cell? ⟨gb853, 0, none⟩ = some (.int .i64 0) := (zb BK853.out 0).trans rfl; have hcz20_1 : w18.cell? ⟨gb853, 1, none⟩ = some (.slice none 0 0) := (zb BK853.out 1).trans rfl; have hfz20_0 := za BK853.out 0; have hfz20_1 := za BK853.out 1; obtain ⟨Ao21, co21, eo21⟩ := Kd.zR HO851.out; subst eo21))
  (try simp only [Act.put, List.setIfInBounds_toArray, List.set_cons_zero, List.set_cons_succ])
  go_cut [41] (fun v41 wc => ∃ (kq : Nat) (x41_7 : Bool), v41 = .bool x41_7 ∧ Aside0 (zf.j0 kq a0 l1 t843 t845 t852 x41_7 t839 t840 t848 t849 = some r) ∧ Aside0 (kq ≤ k) ∧ Aside0 (Kd.R (Kd.int .i64) 3 wc w.heap.size (fun k_ => some k_ ≠ ((.slice Ao14 t840.length co14) : Value).ownBlock ∧ some k_ ≠ ((.slice Ao21 t849.length co21) : Value).ownBlock) (.slice Ao16 t845.length co16) t845) ∧ Aside0 (Kd.R (Kd.int .i64) 3 wc w.heap.size (fun k_ => some k_ ≠ ((.slice Ao16 t845.length co16) : Value).ownBlock ∧ some k_ ≠ ((.slice Ao21 t849.length co21) : Value).ownBlock) (.slice Ao14 t840.length co14) t840) ∧ Aside0 (Kd.R (Kd.int .i64) 3 wc w.heap.size (fun k_ => some k_ ≠ ((.slice Ao16 t845.length co16) : Value).ownBlock ∧ some k_ ≠ ((.slice Ao14 t840.length co14) : Value).ownBlock) (.slice Ao21 t849.length co21) t849) ∧ Aside0 (wc.heap[gb844]? = some (.cells #[.int .i64 t839, (.slice Ao14 t840.length co14)] 27 (0, 0))) ∧ Aside0 (wc.heap[gb853]? = some (.cells #[.int .i64 t848, (.slice Ao21 t849.length co21)] 27 (0, 0))) ∧ Aside0 (Below w.heap.size w wc))
  case first =>
   have H := HC8.out
   clear HC8
   replace H := Option.bind_eq_some_iff.mp H
   obtain ⟨t854, A220, H⟩ := H
   replace H : (if t854 = true then (zf.j0 k a0 l1 t843 t845 t852 (t852 != t843) t839 t840 t848 t849) else (zf.j0 k a0 l1 t843 t845 t852 true t839 t840 t848 t849)) = some r := H
   have A22 := Aside0.mk A220
   clear A220
   by_cases c23 : t854 = true
   ·subst c23
    have H1 : (zf.j0 k a0 l1 t843 t845 t852 (t852 != t843) t839 t840 t848 t849) = some r := by rw [if_pos rfl] at H; exact H
    clear H
    have H := H1
    clear H1
    have H' := Aside0.mk H
    clear H
    have hnb24 := NB853_844.out
    have hnc24 := NB844_853.out
    have hcz25_0 : w18.cell? ⟨gb853, 0, none⟩ = some (.int .i64 0) := (zb BK853.out 0).trans rfl
    have hcz25_1 : w18.cell? ⟨gb853, 1, none⟩ = some (.slice none 0 0) := (zb BK853.out 1).trans rfl
    have hfz25_0 := za BK853.out 0
    have hfz25_1 := za BK853.out 1
    have hcz26_0 : w18.cell? ⟨gb844, 0, none⟩ = some (.int .i64 t839) := (zb BK844.out 0).trans rfl
    have hcz26_1 : w18.cell? ⟨gb844, 1, none⟩ = some (.slice Ao14 t840.length co14) := (zb BK844.out 1).trans rfl
    have hfz26_0 := za BK844.out 0
    have hfz26_1 := za BK844.out 1
    go_wp2_with (first | ((with_reducible refine zd (f := 16) rfl ?_); refine zn (some 35) rfl rfl Try.func16 (by kernel_rfl) rfl #[.agg #[.int .i64 t848, .slice Ao21 t849.length co21], .agg #[.int .i64 t839, .slice Ao14 t840.length co14]] rfl sqM ?_; (with_reducible refine (z8.calls k t848 _ _ t849 t839 _ _ t840 true _ ?side1 ?side2 ?side3 ?side4 A22.out).mono ?_); (case side1 => refine (Kd.zh (e := 3) (base := w.heap.size) (ok := fun k_ => (((True ∧ some k_ ≠ (.slice Ao10 t836.length co10 : Value).ownBlock) ∧ some k_ ≠ (.slice Ao14 t840.length co14 : Value).ownBlock) ∧ some k_ ≠ (.slice Ao16 t845.length co16 : Value).ownBlock)) (n := t849.length) (c := co21) ?_).2.2; exact (by refine sqR ?_; exact (Kd.zu (Kd.zC (p := ⟨gb853, 1, none⟩) (Kd.zC (p := ⟨gb853, 0, none⟩) (Kd.zK HO851.out BK853.out (by decide)) (fun _ hk => hk.2) (.int .i64 t848)) (fun _ hk => hk.2) (.slice Ao21 t849.length co21)) (fun _ h_ => h_.1)))); (case side2 => exact (Kd.zh HO851.out).2.1); (case side3 => refine (Kd.zh (e := 3) (base := w.heap.size) (ok := fun k_ => (((True ∧ some k_ ≠ (.slice Ao10 t836.length co10 : Value).ownBlock) ∧ some k_ ≠ (.slice Ao16 t845.length co16 : Value).ownBlock) ∧ some k_ ≠ (.slice Ao21 t849.length co21 : Value).ownBlock)) (n := t840.length) (c := co14) ?_).2.2; exact (by refine sqR ?_; exact (Kd.zu (Kd.zC (p := ⟨gb853, 1, none⟩) (Kd.zC (p := ⟨gb853, 0, none⟩) (Kd.zK HO842.out BK853.out (by decide)) (fun _ hk => hk.2) (.int .i64 t848)) (fun _ hk => hk.2) (.slice Ao21 t849.length co21)) (fun _ h_ => h_.1)))); (case side4 => exact (Kd.zh HO842.out).2.1); rintro e w27 ⟨rfl, hb⟩; refine ⟨_, rfl, ?_⟩; have n0_ := Aside0.mk (Kd.zz (by refine sqR ?_; exact (Kd.zu (Kd.zC (p := ⟨gb853, 1, none⟩) (Kd.zC (p := ⟨gb853, 0, none⟩) (Kd.zK HO838.out BK853.out (by decide)) (fun _ hk => hk.2) (.int .i64 t848)) (fun _ hk => hk.2) (.slice Ao21 t849.length co21)) (fun _ h_ => h_.1))) hb); have n1_ := Aside0.mk (Kd.zz (by refine sqR ?_; exact (Kd.zu (Kd.zC (p := ⟨gb853, 1, none⟩) (Kd.zC (p := ⟨gb853, 0, none⟩) (Kd.zK HO842.out BK853.out (by decide)) (fun _ hk => hk.2) (.int .i64 t848)) (fun _ hk => hk.2) (.slice Ao21 t849.length co21)) (fun _ h_ => h_.1))) hb); have n2_ := Aside0.mk (Kd.zz (by refine sqR ?_; exact (Kd.zu (Kd.zC (p := ⟨gb853, 1, none⟩) (Kd.zC (p := ⟨gb853, 0, none⟩) (Kd.zK HO847.out BK853.out (by decide)) (fun _ hk => hk.2) (.int .i64 t848)) (fun _ hk => hk.2) (.slice Ao21 t849.length co21)) (fun _ h_ => h_.1))) hb); have n3_ := Aside0.mk (Kd.zz (by refine sqR ?_; exact (Kd.zu (Kd.zC (p := ⟨gb853, 1, none⟩) (Kd.zC (p := ⟨gb853, 0, none⟩) (Kd.zK HO851.out BK853.out (by decide)) (fun _ hk => hk.2) (.int .i64 t848)) (fun _ hk => hk.2) (.slice Ao21 t849.length co21)) (fun _ h_ => h_.1))) hb); have n4_ := Aside0.mk (ze (g := gb844) (o := .cells #[.int .i64 t839, .slice Ao14 t840.length co14] 27 (0, 0)) (by refine sqK ?_; refine qk ?_ NB844_853.out _; refine sqK ?_; refine qk ?_ NB844_853.out _; refine sqK ?_; exact BK844.out) hb); have n5_ := Aside0.mk (ze (g := gb853) (o := .cells #[.int .i64 t848, .slice Ao21 t849.length co21] 27 (0, 0)) (by refine sqK ?_; refine zB (cs := #[.int .i64 t848, .slice none 0 0]) ?_ 1 _ rfl; refine sqK ?_; refine zB (cs := #[.int .i64 0, .slice none 0 0]) ?_ 0 _ rfl; refine sqK ?_; exact BK853.out) hb); have n6_ := Aside0.mk (zc sqB hb); clear HO838; clear HO842; clear HO847; clear HO851; clear BK844; clear BK853; clear HB; have HO838 := n0_; have HO842 := n1_; have HO847 := n2_; have HO851 := n3_; have BK844 := n4_; have BK853 := n5_; have HB := n6_; clear n0_ n1_ n2_ n3_ n4_ n5_ n6_; (try clear hb); (try clear hb2); (try clear hk); (try clear hi)))
    go_meet
    case rel => exact ⟨_, ((t852 != t843)), (sqD), H', ⟨by first | omega | exact Nat.le_refl _⟩, ⟨by refine sqR ?_; exact Kd.zu HO847.out (fun _ hk => by first | exact ⟨hk.1.2, hk.2⟩ | (refine ⟨?_, ?_⟩ <;> intro e_ <;> simp only [e_, ne_eq, not_true_eq_false, and_false, false_and] at hk))⟩, ⟨by refine sqR ?_; exact Kd.zu HO842.out (fun _ hk => by first | exact ⟨hk.1.2, hk.2⟩ | (refine ⟨?_, ?_⟩ <;> intro e_ <;> simp only [e_, ne_eq, not_true_eq_false, and_false, false_and] at hk))⟩, ⟨by refine sqR ?_; exact Kd.zu HO851.out (fun _ hk => by first | exact ⟨hk.2, hk.1.2⟩ | (refine ⟨?_, ?_⟩ <;> intro e_ <;> simp only [e_, ne_eq, not_true_eq_false, and_false, false_and] at hk))⟩, ⟨sqK BK844.out⟩, ⟨sqK BK853.out⟩, ⟨sqB⟩⟩
   ·replace c23 := Bool.eq_false_iff.mpr c23
    subst c23
    have H1 : (zf.j0 k a0 l1 t843 t845 t852 true t839 t840 t848 t849) = some r := by rw [if_neg (show ¬ (false = true) by decide)] at H; exact H
    clear H
    have H := H1
    clear H1
    have H' := Aside0.mk H
    clear H
    have hnb28 := NB853_844.out
    have hnc28 := NB844_853.out
    have hcz29_0 : w18.cell? ⟨gb853, 0, none⟩ = some (.int .i64 0) := (zb BK853.out 0).trans rfl
    have hcz29_1 : w18.cell? ⟨gb853, 1, none⟩ = some (.slice none 0 0) := (zb BK853.out 1).trans rfl
    have hfz29_0 := za BK853.out 0
    have hfz29_1 := za BK853.out 1
    have hcz30_0 : w18.cell? ⟨gb844, 0, none⟩ = some (.int .i64 t839) := (zb BK844.out 0).trans rfl
    have hcz30_1 : w18.cell? ⟨gb844, 1, none⟩ = some (.slice Ao14 t840.length co14) := (zb BK844.out 1).trans rfl
    have hfz30_0 := za BK844.out 0
    have hfz30_1 := za BK844.out 1
    go_wp2_with (first | ((with_reducible refine zd (f := 16) rfl ?_); refine zn (some 35) rfl rfl Try.func16 (by kernel_rfl) rfl #[.agg #[.int .i64 t848, .slice Ao21 t849.length co21], .agg #[.int .i64 t839, .slice Ao14 t840.length co14]] rfl sqM ?_; (with_reducible refine (z8.calls k t848 _ _ t849 t839 _ _ t840 false _ ?side1 ?side2 ?side3 ?side4 A22.out).mono ?_); (case side1 => refine (Kd.zh (e := 3) (base := w.heap.size) (ok := fun k_ => (((True ∧ some k_ ≠ (.slice Ao10 t836.length co10 : Value).ownBlock) ∧ some k_ ≠ (.slice Ao14 t840.length co14 : Value).ownBlock) ∧ some k_ ≠ (.slice Ao16 t845.length co16 : Value).ownBlock)) (n := t849.length) (c := co21) ?_).2.2; exact (by refine sqR ?_; exact (Kd.zu (Kd.zC (p := ⟨gb853, 1, none⟩) (Kd.zC (p := ⟨gb853, 0, none⟩) (Kd.zK HO851.out BK853.out (by decide)) (fun _ hk => hk.2) (.int .i64 t848)) (fun _ hk => hk.2) (.slice Ao21 t849.length co21)) (fun _ h_ => h_.1)))); (case side2 => exact (Kd.zh HO851.out).2.1); (case side3 => refine (Kd.zh (e := 3) (base := w.heap.size) (ok := fun k_ => (((True ∧ some k_ ≠ (.slice Ao10 t836.length co10 : Value).ownBlock) ∧ some k_ ≠ (.slice Ao16 t845.length co16 : Value).ownBlock) ∧ some k_ ≠ (.slice Ao21 t849.length co21 : Value).ownBlock)) (n := t840.length) (c := co14) ?_).2.2; exact (by refine sqR ?_; exact (Kd.zu (Kd.zC (p := ⟨gb853, 1, none⟩) (Kd.zC (p := ⟨gb853, 0, none⟩) (Kd.zK HO842.out BK853.out (by decide)) (fun _ hk => hk.2) (.int .i64 t848)) (fun _ hk => hk.2) (.slice Ao21 t849.length co21)) (fun _ h_ => h_.1)))); (case side4 => exact (Kd.zh HO842.out).2.1); rintro e w31 ⟨rfl, hb⟩; refine ⟨_, rfl, ?_⟩; have n0_ := Aside0.mk (Kd.zz (by refine sqR ?_; exact (Kd.zu (Kd.zC (p := ⟨gb853, 1, none⟩) (Kd.zC (p := ⟨gb853, 0, none⟩) (Kd.zK HO838.out BK853.out (by decide)) (fun _ hk => hk.2) (.int .i64 t848)) (fun _ hk => hk.2) (.slice Ao21 t849.length co21)) (fun _ h_ => h_.1))) hb); have n1_ := Aside0.mk (Kd.zz (by refine sqR ?_; exact (Kd.zu (Kd.zC (p := ⟨gb853, 1, none⟩) (Kd.zC (p := ⟨gb853, 0, none⟩) (Kd.zK HO842.out BK853.out (by decide)) (fun _ hk => hk.2) (.int .i64 t848)) (fun _ hk => hk.2) (.slice Ao21 t849.length co21)) (fun _ h_ => h_.1))) hb); have n2_ := Aside0.mk (Kd.zz (by refine sqR ?_; exact (Kd.zu (Kd.zC (p := ⟨gb853, 1, none⟩) (Kd.zC (p := ⟨gb853, 0, none⟩) (Kd.zK HO847.out BK853.out (by decide)) (fun _ hk => hk.2) (.int .i64 t848)) (fun _ hk => hk.2) (.slice Ao21 t849.length co21)) (fun _ h_ => h_.1))) hb); have n3_ := Aside0.mk (Kd.zz (by refine sqR ?_; exact (Kd.zu (Kd.zC (p := ⟨gb853, 1, none⟩) (Kd.zC (p := ⟨gb853, 0, none⟩) (Kd.zK HO851.out BK853.out (by decide)) (fun _ hk => hk.2) (.int .i64 t848)) (fun _ hk => hk.2) (.slice Ao21 t849.length co21)) (fun _ h_ => h_.1))) hb); have n4_ := Aside0.mk (ze (g := gb844) (o := .cells #[.int .i64 t839, .slice Ao14 t840.length co14] 27 (0, 0)) (by refine sqK ?_; refine qk ?_ NB844_853.out _; refine sqK ?_; refine qk ?_ NB844_853.out _; refine sqK ?_; exact BK844.out) hb); have n5_ := Aside0.mk (ze (g := gb853) (o := .cells #[.int .i64 t848, .slice Ao21 t849.length co21] 27 (0, 0)) (by refine sqK ?_; refine zB (cs := #[.int .i64 t848, .slice none 0 0]) ?_ 1 _ rfl; refine sqK ?_; refine zB (cs := #[.int .i64 0, .slice none 0 0]) ?_ 0 _ rfl; refine sqK ?_; exact BK853.out) hb); have n6_ := Aside0.mk (zc sqB hb); clear HO838; clear HO842; clear HO847; clear HO851; clear BK844; clear BK853; clear HB; have HO838 := n0_; have HO842 := n1_; have HO847 := n2_; have HO851 := n3_; have BK844 := n4_; have BK853 := n5_; have HB := n6_; clear n0_ n1_ n2_ n3_ n4_ n5_ n6_; (try clear hb); (try clear hb2); (try clear hk); (try clear hi)))
    go_meet
    case rel => exact ⟨_, (true), (sqD), H', ⟨by first | omega | exact Nat.le_refl _⟩, ⟨by refine sqR ?_; exact Kd.zu HO847.out (fun _ hk => by first | exact ⟨hk.1.2, hk.2⟩ | (refine ⟨?_, ?_⟩ <;> intro e_ <;> simp only [e_, ne_eq, not_true_eq_false, and_false, false_and] at hk))⟩, ⟨by refine sqR ?_; exact Kd.zu HO842.out (fun _ hk => by first | exact ⟨hk.1.2, hk.2⟩ | (refine ⟨?_, ?_⟩ <;> intro e_ <;> simp only [e_, ne_eq, not_true_eq_false, and_false, false_and] at hk))⟩, ⟨by refine sqR ?_; exact Kd.zu HO851.out (fun _ hk => by first | exact ⟨hk.2, hk.1.2⟩ | (refine ⟨?_, ?_⟩ <;> intro e_ <;> simp only [e_, ne_eq, not_true_eq_false, and_false, false_and] at hk))⟩, ⟨sqK BK844.out⟩, ⟨sqK BK853.out⟩, ⟨sqB⟩⟩
  case rest =>
   clear HC8
   try clear c1
   try clear c2
   try clear p2
   try clear c3
   try clear c3b0
   try clear c3b1
   try clear c10
   try clear c16
   try clear c19
   try clear c21
   try clear c23
   try clear c24
   try clear c28
   try clear hcz13_0
   try clear hcz13_1
   try clear hcz20_0
   try clear hcz20_1
   try clear hcz25_0
   try clear hcz25_1
   try clear hcz26_0
   try clear hcz26_1
   try clear hcz29_0
   try clear hcz29_1
   try clear hcz30_0
   try clear hcz30_1
   try clear hfz13_0
   try clear hfz13_1
   try clear hfz20_0
   try clear hfz20_1
   try clear hfz25_0
   try clear hfz25_1
   try clear hfz26_0
   try clear hfz26_1
   try clear hfz29_0
   try clear hfz29_1
   try clear hfz30_0
   try clear hfz30_1
   obtain ⟨kq, x41_7, rfl, HA, HJ7, HO_7, HO_845001, HO_854001, BK844, BK853, HB⟩ := hcut
   cases kq with
   | zero => exact absurd HA.out (by simp [zf.j0])
   | succ kj7 =>
    have H := HA.out
    clear HA
    simp only [zf.j0] at H
    by_cases c32 : x41_7 = true
    ·subst c32
     have H1 : (none) = some r := by rw [if_pos rfl] at H; exact H
     clear H
     have H := H1
     clear H1
     exact absurd H (by simp)
    ·replace c32 := Bool.eq_false_iff.mpr c32
     subst c32
     have H1 : ((qg.f kj7 l1).bind fun t855 => ((qX.f kj7 t845 t855).bind fun t858 => (if t858 = true then ((qp.f kj7 t845 1).bind fun bt859 => (if bt859.1 < 0 then (zf.j1 kj7 a0 l1 t843 true t839 t840 t848 t849) else ((z8.f kj7 t848 t849 t839 t840).bind fun t861 => (if t861 = true then (zf.j1 kj7 a0 l1 t843 (t852 != t843) t839 t840 t848 t849) else (zf.j1 kj7 a0 l1 t843 true t839 t840 t848 t849))))) else (none)))) = some r := by rw [if_neg (show ¬ (false = true) by decide)] at H; exact H
     clear H
     have H := H1
     clear H1
     replace H := Option.bind_eq_some_iff.mp H
     obtain ⟨t855, A330, H⟩ := H
     replace H : ((qX.f kj7 t845 t855).bind fun t858 => (if t858 = true then ((qp.f kj7 t845 1).bind fun bt859 => (if bt859.1 < 0 then (zf.j1 kj7 a0 l1 t843 true t839 t840 t848 t849) else ((z8.f kj7 t848 t849 t839 t840).bind fun t861 => (if t861 = true then (zf.j1 kj7 a0 l1 t843 (t852 != t843) t839 t840 t848 t849) else (zf.j1 kj7 a0 l1 t843 true t839 t840 t848 t849))))) else (none))) = some r := H
     have A33 := Aside0.mk A330
     clear A330
     replace H := Option.bind_eq_some_iff.mp H
     obtain ⟨t858, A340, H⟩ := H
     replace H : (if t858 = true then ((qp.f kj7 t845 1).bind fun bt859 => (if bt859.1 < 0 then (zf.j1 kj7 a0 l1 t843 true t839 t840 t848 t849) else ((z8.f kj7 t848 t849 t839 t840).bind fun t861 => (if t861 = true then (zf.j1 kj7 a0 l1 t843 (t852 != t843) t839 t840 t848 t849) else (zf.j1 kj7 a0 l1 t843 true t839 t840 t848 t849))))) else (none)) = some r := H
     have A34 := Aside0.mk A340
     clear A340
     by_cases c35 : t858 = true
     ·subst c35
      have H1 : ((qp.f kj7 t845 1).bind fun bt859 => (if bt859.1 < 0 then (zf.j1 kj7 a0 l1 t843 true t839 t840 t848 t849) else ((z8.f kj7 t848 t849 t839 t840).bind fun t861 => (if t861 = true then (zf.j1 kj7 a0 l1 t843 (t852 != t843) t839 t840 t848 t849) else (zf.j1 kj7 a0 l1 t843 true t839 t840 t848 t849))))) = some r := by rw [if_pos rfl] at H; exact H
      clear H
      have H := H1
      clear H1
      replace H := Option.bind_eq_some_iff.mp H
      obtain ⟨⟨t859, t860⟩, A360, H⟩ := H
      replace H : (if t859 < 0 then (zf.j1 kj7 a0 l1 t843 true t839 t840 t848 t849) else ((z8.f kj7 t848 t849 t839 t840).bind fun t861 => (if t861 = true then (zf.j1 kj7 a0 l1 t843 (t852 != t843) t839 t840 t848 t849) else (zf.j1 kj7 a0 l1 t843 true t839 t840 t848 t849)))) = some r := H
      have A36 := Aside0.mk A360
      clear A360
      have HC37 := Aside0.mk H
      clear H
      go_upto_region 12 with (first | ((with_reducible refine zd (f := 21) rfl ?_); refine zn (some 44) rfl rfl Try.func21 (by kernel_rfl) rfl #[.slice A1 l1.length c1] rfl sqM ?_; (with_reducible refine (qg.calls kj7 _ _ l1 t855 _ ?side1 ?side2 A33.out).mono ?_); (case side1 => exact sqC (Kd.zp HR1.out HB.out)); (case side2 => exact HC1.out); rintro e w38 ⟨v856, rfl, ho0, hb⟩; refine ⟨_, rfl, ?_⟩; have n0_ := Aside0.mk (Kd.zU (sqR HO_7.out) (Kd.qt ho0) hb); have n1_ := Aside0.mk (Kd.zU (sqR HO_845001.out) (Kd.qt ho0) hb); have n2_ := Aside0.mk (Kd.zU (sqR HO_854001.out) (Kd.qt ho0) hb); have n3_ := Aside0.mk (Kd.zD (Kd.qu (Kd.qu (Kd.qu ho0 (Kd.jd (sqR HO_7.out))) (Kd.jd (sqR HO_845001.out))) (Kd.jd (sqR HO_854001.out))) (zg sqB)); have n4_ := Aside0.mk (ze (g := gb844) (o := .cells #[.int .i64 t839, .slice Ao14 t840.length co14] 27 (0, 0)) (sqK BK844.out) hb); have n5_ := Aside0.mk (ze (g := gb853) (o := .cells #[.int .i64 t848, .slice Ao21 t849.length co21] 27 (0, 0)) (sqK BK853.out) hb); have n6_ := Aside0.mk (zc sqB hb); clear HO_7; clear HO_845001; clear HO_854001; clear BK844; clear BK853; clear HB; have HO_7 := n0_; have HO_845001 := n1_; have HO_854001 := n2_; have HO857 := n3_; have BK844 := n4_; have BK853 := n5_; have HB := n6_; clear n0_ n1_ n2_ n3_ n4_ n5_ n6_; (try clear hb); (try clear hb2); (try clear hk); (try clear hi); (try clear ho0); obtain ⟨Ao39, co39, eo39⟩ := Kd.zR HO857.out; subst eo39) | ((with_reducible refine zd (f := 15) rfl ?_); refine zn (some 45) rfl rfl Try.func15 (by kernel_rfl) rfl #[.slice Ao16 t845.length co16, .slice Ao39 t855.length co39] rfl sqM ?_; (with_reducible refine (qX.calls kj7 _ _ t845 _ _ t855 true _ ?side1 ?side2 ?side3 ?side4 A34.out).mono ?_); (case side1 => exact sqC (Kd.zh HO_7.out).2.2); (case side2 => exact (Kd.zh HO_7.out).2.1); (case side3 => exact sqC (Kd.zh HO857.out).2.2); (case side4 => exact (Kd.zh HO857.out).2.1); rintro e w' ⟨rfl, ⟨nd, rfl⟩⟩; refine ⟨_, rfl, ?_⟩) | ((with_reducible refine zd (f := 18) rfl ?_); refine zn (some 49) rfl rfl Try.func18 (by kernel_rfl) rfl #[.slice Ao16 t845.length co16, .int .i64 1] rfl sqM ?_; (with_reducible refine (qp.calls kj7 (fun k_ => some k_ = (.slice Ao16 t845.length co16 : Value).ownBlock) (.slice Ao16 t845.length co16) t845 1 t859 t860 w _ ?side1 ?side2 A36.out).mono ?_); (case side1 => repeat (first | (with_reducible first | exact HB.out | apply jI | apply qh | apply qi | refine jt ?_ GE844.out | refine jt ?_ GE853.out) | exact HB.out)); (case side2 => exact Kd.QU rfl HO_7.out); rintro e w40 ⟨rfl, hy0, hb, hkp⟩; refine ⟨_, rfl, ?_⟩; have n0_ := Aside0.mk (Kd.V8 rfl hy0 (fun k_ e_ => HO_7.out.1 k_ e_)); have n1_ := Aside0.mk (Kd.zu (ok' := fun k_ => some k_ ≠ (.slice Ao16 t845.length co16 : Value).ownBlock ∧ some k_ ≠ (.slice Ao21 t849.length co21 : Value).ownBlock ∧ some k_ ≠ (.slice Ao39 t855.length co39 : Value).ownBlock) (Kd.QQ (HO_845001.out) hkp (fun k_ hk_ hs_ => by first | exact hk_.1.1 hs_ | (have e_ : some k_ = _ := hs_; simp only [e_, ne_eq, not_true_eq_false, and_false, false_and] at hk_))) (fun k_ hk_ => by first | exact ⟨hk_.1.1.1, hk_.1.1.2, hk_.1.2⟩ | (refine ⟨?_, ?_, ?_⟩ <;> intro e_ <;> simp only [e_, ne_eq, not_true_eq_false, and_false, false_and] at hk_))); have n2_ := Aside0.mk (Kd.zu (ok' := fun k_ => some k_ ≠ (.slice Ao16 t845.length co16 : Value).ownBlock ∧ some k_ ≠ (.slice Ao14 t840.length co14 : Value).ownBlock ∧ some k_ ≠ (.slice Ao39 t855.length co39 : Value).ownBlock) (Kd.QQ (HO_854001.out) hkp (fun k_ hk_ hs_ => by first | exact hk_.1.1 hs_ | (have e_ : some k_ = _ := hs_; simp only [e_, ne_eq, not_true_eq_false, and_false, false_and] at hk_))) (fun k_ hk_ => by first | exact ⟨hk_.1.1.1, hk_.1.1.2, hk_.1.2⟩ | (refine ⟨?_, ?_, ?_⟩ <;> intro e_ <;> simp only [e_, ne_eq, not_true_eq_false, and_false, false_and] at hk_))); have n3_ := Aside0.mk (Zb (sqK BK844.out) hkp (fun hs_ => (fun e_ => (Kd.Jd HO_7.out BK844.out (by decide)) e_) hs_)); have n4_ := Aside0.mk (Zb (sqK BK853.out) hkp (fun hs_ => (fun e_ => (Kd.Jd HO_7.out BK853.out (by decide)) e_) hs_)); have n5_ := Aside0.mk (Kd.zu (ok' := fun k_ => some k_ ≠ (.slice Ao16 t845.length co16 : Value).ownBlock ∧ some k_ ≠ (.slice Ao14 t840.length co14 : Value).ownBlock ∧ some k_ ≠ (.slice Ao21 t849.length co21 : Value).ownBlock) (Kd.QQ (HO857.out) hkp (fun k_ hk_ hs_ => by first | exact hk_.1.1.2 hs_ | (have e_ : some k_ = _ := hs_; simp only [e_, ne_eq, not_true_eq_false, and_false, false_and] at hk_))) (fun k_ hk_ => by first | exact ⟨hk_.1.1.1.2, hk_.1.1.2, hk_.1.2⟩ | (refine ⟨?_, ?_, ?_⟩ <;> intro e_ <;> simp only [e_, ne_eq, not_true_eq_false, and_false, false_and] at hk_))); have n6_ := Aside0.mk (hb); clear HO_7; clear HO_845001; clear HO_854001; clear BK844; clear BK853; clear HO857; clear HB; have HO_7 := n0_; have HO_845001 := n1_; have HO_854001 := n2_; have BK844 := n3_; have BK853 := n4_; have HO857 := n5_; have HB := n6_; clear n0_ n1_ n2_ n3_ n4_ n5_ n6_; (try clear hb); (try clear hkp); (try clear hy0)))
      (try simp only [Act.put, List.setIfInBounds_toArray, List.set_cons_zero, List.set_cons_succ])
      go_cut [62] (fun v62 wc => ∃ (kq : Nat) (x62_36 : Bool), v62 = .bool x62_36 ∧ Aside0 (zf.j1 kq a0 l1 t843 x62_36 t839 t840 t848 t849 = some r) ∧ Aside0 (kq ≤ kj7) ∧ Aside0 (Kd.R (Kd.int .i64) 3 wc w.heap.size (fun k_ => some k_ ≠ ((.slice Ao21 t849.length co21) : Value).ownBlock) (.slice Ao14 t840.length co14) t840) ∧ Aside0 (Kd.R (Kd.int .i64) 3 wc w.heap.size (fun k_ => some k_ ≠ ((.slice Ao14 t840.length co14) : Value).ownBlock) (.slice Ao21 t849.length co21) t849) ∧ Aside0 (wc.heap[gb844]? = some (.cells #[.int .i64 t839, (.slice Ao14 t840.length co14)] 27 (0, 0))) ∧ Aside0 (wc.heap[gb853]? = some (.cells #[.int .i64 t848, (.slice Ao21 t849.length co21)] 27 (0, 0))) ∧ Aside0 (Below w.heap.size w wc))
      case first =>
       have H := HC37.out
       clear HC37
       by_cases c41 : t859 < 0
       ·rw [if_pos c41] at H
        have c41b0 : decide (t859 < 0) = true := decide_eq_true c41
        clear c41
        (first | rw [c41b0] | (simp only [zj, zo]; rw [c41b0]) | skip)
        have H' := Aside0.mk H
        clear H
        go_wp2
        go_meet
        case rel => exact ⟨_, (true), (sqD), H', ⟨by have := HJ7.out; first | omega | exact Nat.le_refl _⟩, ⟨by refine sqR ?_; exact Kd.zu HO_845001.out (fun _ hk => hk.2.1)⟩, ⟨by refine sqR ?_; exact Kd.zu HO_854001.out (fun _ hk => hk.2.1)⟩, ⟨sqK BK844.out⟩, ⟨sqK BK853.out⟩, ⟨sqB⟩⟩
       ·rw [if_neg c41] at H
        have c41b0 : decide (t859 < 0) = false := decide_eq_false c41
        clear c41
        (first | rw [c41b0] | (simp only [zj, zo]; rw [c41b0]) | skip)
        replace H := Option.bind_eq_some_iff.mp H
        obtain ⟨t861, A420, H⟩ := H
        replace H : (if t861 = true then (zf.j1 kj7 a0 l1 t843 (t852 != t843) t839 t840 t848 t849) else (zf.j1 kj7 a0 l1 t843 true t839 t840 t848 t849)) = some r := H
        have A42 := Aside0.mk A420
        clear A420
        by_cases c43 : t861 = true
        ·subst c43
         have H1 : (zf.j1 kj7 a0 l1 t843 (t852 != t843) t839 t840 t848 t849) = some r := by rw [if_pos rfl] at H; exact H
         clear H
         have H := H1
         clear H1
         have H' := Aside0.mk H
         clear H
         have hnb44 := NB853_844.out
         have hnc44 := NB844_853.out
         have hcz45_0 : w40.cell? ⟨gb853, 0, none⟩ = some (.int .i64 t848) := (zb BK853.out 0).trans rfl
         have hcz45_1 : w40.cell? ⟨gb853, 1, none⟩ = some (.slice Ao21 t849.length co21) := (zb BK853.out 1).trans rfl
         have hfz45_0 := za BK853.out 0
         have hfz45_1 := za BK853.out 1
         have hcz46_0 : w40.cell? ⟨gb844, 0, none⟩ = some (.int .i64 t839) := (zb BK844.out 0).trans rfl
         have hcz46_1 : w40.cell? ⟨gb844, 1, none⟩ = some (.slice Ao14 t840.length co14) := (zb BK844.out 1).trans rfl
         have hfz46_0 := za BK844.out 0
         have hfz46_1 := za BK844.out 1
         go_wp2_with (first | (go_at_call 16; (try simp only [zj, zo]); (with_reducible refine (z8.calls kj7 t848 _ _ t849 t839 _ _ t840 true _ ?side1 ?side2 ?side3 ?side4 A42.out).mono ?_); (case side1 => exact sqC (Kd.zh HO_854001.out).2.2); (case side2 => exact (Kd.zh HO_854001.out).2.1); (case side3 => exact sqC (Kd.zh HO_845001.out).2.2); (case side4 => exact (Kd.zh HO_845001.out).2.1); rintro e w47 ⟨rfl, hb⟩; have n0_ := Aside0.mk (Kd.zz (sqR HO_7.out) hb); have n1_ := Aside0.mk (Kd.zz (sqR HO_845001.out) hb); have n2_ := Aside0.mk (Kd.zz (sqR HO_854001.out) hb); have n3_ := Aside0.mk (Kd.zz (sqR HO857.out) hb); have n4_ := Aside0.mk (ze (g := gb844) (o := .cells #[.int .i64 t839, .slice Ao14 t840.length co14] 27 (0, 0)) (sqK BK844.out) hb); have n5_ := Aside0.mk (ze (g := gb853) (o := .cells #[.int .i64 t848, .slice Ao21 t849.length co21] 27 (0, 0)) (sqK BK853.out) hb); have n6_ := Aside0.mk (zc sqB hb); clear HO_7; clear HO_845001; clear HO_854001; clear HO857; clear BK844; clear BK853; clear HB; have HO_7 := n0_; have HO_845001 := n1_; have HO_854001 := n2_; have HO857 := n3_; have BK844 := n4_; have BK853 := n5_; have HB := n6_; clear n0_ n1_ n2_ n3_ n4_ n5_ n6_; (try clear hb); (try clear hb2); (try clear hk); (try clear hi)))
         go_meet
         case rel => exact ⟨_, ((t852 != t843)), (sqD), H', ⟨by have := HJ7.out; first | omega | exact Nat.le_refl _⟩, ⟨by refine sqR ?_; exact Kd.zu HO_845001.out (fun _ hk => hk.2.1)⟩, ⟨by refine sqR ?_; exact Kd.zu HO_854001.out (fun _ hk => hk.2.1)⟩, ⟨sqK BK844.out⟩, ⟨sqK BK853.out⟩, ⟨sqB⟩⟩
        ·replace c43 := Bool.eq_false_iff.mpr c43
         subst c43
         have H1 : (zf.j1 kj7 a0 l1 t843 true t839 t840 t848 t849) = some r := by rw [if_neg (show ¬ (false = true) by decide)] at H; exact H
         clear H
         have H := H1
         clear H1
         have H' := Aside0.mk H
         clear H
         have hnb48 := NB853_844.out
         have hnc48 := NB844_853.out
         have hcz49_0 : w40.cell? ⟨gb853, 0, none⟩ = some (.int .i64 t848) := (zb BK853.out 0).trans rfl
         have hcz49_1 : w40.cell? ⟨gb853, 1, none⟩ = some (.slice Ao21 t849.length co21) := (zb BK853.out 1).trans rfl
         have hfz49_0 := za BK853.out 0
         have hfz49_1 := za BK853.out 1
         have hcz50_0 : w40.cell? ⟨gb844, 0, none⟩ = some (.int .i64 t839) := (zb BK844.out 0).trans rfl
         have hcz50_1 : w40.cell? ⟨gb844, 1, none⟩ = some (.slice Ao14 t840.length co14) := (zb BK844.out 1).trans rfl
         have hfz50_0 := za BK844.out 0
         have hfz50_1 := za BK844.out 1
         go_wp2_with (first | (go_at_call 16; (try simp only [zj, zo]); (with_reducible refine (z8.calls kj7 t848 _ _ t849 t839 _ _ t840 false _ ?side1 ?side2 ?side3 ?side4 A42.out).mono ?_); (case side1 => exact sqC (Kd.zh HO_854001.out).2.2); (case side2 => exact (Kd.zh HO_854001.out).2.1); (case side3 => exact sqC (Kd.zh HO_845001.out).2.2); (case side4 => exact (Kd.zh HO_845001.out).2.1); rintro e w51 ⟨rfl, hb⟩; have n0_ := Aside0.mk (Kd.zz (sqR HO_7.out) hb); have n1_ := Aside0.mk (Kd.zz (sqR HO_845001.out) hb); have n2_ := Aside0.mk (Kd.zz (sqR HO_854001.out) hb); have n3_ := Aside0.mk (Kd.zz (sqR HO857.out) hb); have n4_ := Aside0.mk (ze (g := gb844) (o := .cells #[.int .i64 t839, .slice Ao14 t840.length co14] 27 (0, 0)) (sqK BK844.out) hb); have n5_ := Aside0.mk (ze (g := gb853) (o := .cells #[.int .i64 t848, .slice Ao21 t849.length co21] 27 (0, 0)) (sqK BK853.out) hb); have n6_ := Aside0.mk (zc sqB hb); clear HO_7; clear HO_845001; clear HO_854001; clear HO857; clear BK844; clear BK853; clear HB; have HO_7 := n0_; have HO_845001 := n1_; have HO_854001 := n2_; have HO857 := n3_; have BK844 := n4_; have BK853 := n5_; have HB := n6_; clear n0_ n1_ n2_ n3_ n4_ n5_ n6_; (try clear hb); (try clear hb2); (try clear hk); (try clear hi)))
         go_meet
         case rel => exact ⟨_, (true), (sqD), H', ⟨by have := HJ7.out; first | omega | exact Nat.le_refl _⟩, ⟨by refine sqR ?_; exact Kd.zu HO_845001.out (fun _ hk => hk.2.1)⟩, ⟨by refine sqR ?_; exact Kd.zu HO_854001.out (fun _ hk => hk.2.1)⟩, ⟨sqK BK844.out⟩, ⟨sqK BK853.out⟩, ⟨sqB⟩⟩
      case rest =>
       clear HC37
       try clear c1
       try clear c2
       try clear p2
       try clear c3
       try clear c3b0
       try clear c3b1
       try clear c4
       try clear c10
       try clear c15
       try clear c16
       try clear c18
       try clear c19
       try clear c21
       try clear c23
       try clear c24
       try clear c28
       try clear c32
       try clear c34
       try clear c35
       try clear c41
       try clear c41b0
       try clear c43
       try clear c44
       try clear c48
       try clear hcz13_0
       try clear hcz13_1
       try clear hcz20_0
       try clear hcz20_1
       try clear hcz25_0
       try clear hcz25_1
       try clear hcz26_0
       try clear hcz26_1
       try clear hcz29_0
       try clear hcz29_1
       try clear hcz30_0
       try clear hcz30_1
       try clear hcz45_0
       try clear hcz45_1
       try clear hcz46_0
       try clear hcz46_1
       try clear hcz49_0
       try clear hcz49_1
       try clear hcz50_0
       try clear hcz50_1
       try clear hfz13_0
       try clear hfz13_1
       try clear hfz20_0
       try clear hfz20_1
       try clear hfz25_0
       try clear hfz25_1
       try clear hfz26_0
       try clear hfz26_1
       try clear hfz29_0
       try clear hfz29_1
       try clear hfz30_0
       try clear hfz30_1
       try clear hfz45_0
       try clear hfz45_1
       try clear hfz46_0
       try clear hfz46_1
       try clear hfz49_0
       try clear hfz49_1
       try clear hfz50_0
       try clear hfz50_1
       try clear p2
       obtain ⟨kq, x62_36, rfl, HA, HJ36, HO_845001, HO_854001, BK844, BK853, HB⟩ := hcut
       cases kq with
       | zero => exact absurd HA.out (by simp [zf.j1])
       | succ kj36 =>
        have H := HA.out
        clear HA
        simp only [zf.j1] at H
        by_cases c52 : x62_36 = true
        ·subst c52
         have H1 : (none) = some r := by rw [if_pos rfl] at H; exact H
         clear H
         have H := H1
         clear H1
         exact absurd H (by simp)
        ·replace c52 := Bool.eq_false_iff.mpr c52
         subst c52
         have H1 : ((jw.f kj36 t848 t849 1).bind fun bt862 => ((ja.f kj36 t848 bt862.2 1).bind fun t864 => (if t864 < 0 then (none) else (if t864 = bt862.1 then ((qg.f kj36 l1).bind fun t865 => ((qj.f kj36 a0 t865).bind fun bt868 => ((z8.f kj36 bt868.1 bt868.2.1 t839 t840).bind fun t874 => (if t874 = true then (zf.j2 kj36 bt862.1 (bt868.2.2 != t843) t848 bt862.2) else (zf.j2 kj36 bt862.1 true t848 bt862.2))))) else (none))))) = some r := by rw [if_neg (show ¬ (false = true) by decide)] at H; exact H
         clear H
         have H := H1
         clear H1
         replace H := Option.bind_eq_some_iff.mp H
         obtain ⟨⟨t862, t863⟩, A530, H⟩ := H
         replace H : ((ja.f kj36 t848 t863 1).bind fun t864 => (if t864 < 0 then (none) else (if t864 = t862 then ((qg.f kj36 l1).bind fun t865 => ((qj.f kj36 a0 t865).bind fun bt868 => ((z8.f kj36 bt868.1 bt868.2.1 t839 t840).bind fun t874 => (if t874 = true then (zf.j2 kj36 t862 (bt868.2.2 != t843) t848 t863) else (zf.j2 kj36 t862 true t848 t863))))) else (none)))) = some r := H
         have A53 := Aside0.mk A530
         clear A530
         replace H := Option.bind_eq_some_iff.mp H
         obtain ⟨t864, A540, H⟩ := H
         replace H : (if t864 < 0 then (none) else (if t864 = t862 then ((qg.f kj36 l1).bind fun t865 => ((qj.f kj36 a0 t865).bind fun bt868 => ((z8.f kj36 bt868.1 bt868.2.1 t839 t840).bind fun t874 => (if t874 = true then (zf.j2 kj36 t862 (bt868.2.2 != t843) t848 t863) else (zf.j2 kj36 t862 true t848 t863))))) else (none))) = some r := H
         have A54 := Aside0.mk A540
         clear A540
         by_cases c55 : t864 < 0
         ·rw [if_pos c55] at H
          exact absurd H (by simp)
         ·rw [if_neg c55] at H
          have c55b0 : decide (t864 < 0) = false := decide_eq_false c55
          clear c55
          by_cases c56 : t864 = t862
          ·rw [if_pos c56] at H
           have c56b0 : (t864 == t862) = true := beq_iff_eq.mpr c56
           have c56b1 : (t864 != t862) = false := bne_eq_false_iff_eq.mpr c56
           clear c56
           replace H := Option.bind_eq_some_iff.mp H
           obtain ⟨t865, A570, H⟩ := H
           replace H : ((qj.f kj36 a0 t865).bind fun bt868 => ((z8.f kj36 bt868.1 bt868.2.1 t839 t840).bind fun t874 => (if t874 = true then (zf.j2 kj36 t862 (bt868.2.2 != t843) t848 t863) else (zf.j2 kj36 t862 true t848 t863)))) = some r := H
           have A57 := Aside0.mk A570
           clear A570
           replace H := Option.bind_eq_some_iff.mp H
           obtain ⟨⟨t868, t869, t872⟩, A580, H⟩ := H
           replace H : ((z8.f kj36 t868 t869 t839 t840).bind fun t874 => (if t874 = true then (zf.j2 kj36 t862 (t872 != t843) t848 t863) else (zf.j2 kj36 t862 true t848 t863))) = some r := H
           have A58 := Aside0.mk A580
           clear A580
           have HC59 := Aside0.mk H
           clear H
           have hnb60 := NB853_844.out
           have hnc60 := NB844_853.out
           have hcz61_0 : wc.cell? ⟨gb853, 0, none⟩ = some (.int .i64 t848) := (zb BK853.out 0).trans rfl
           have hcz61_1 : wc.cell? ⟨gb853, 1, none⟩ = some (.slice Ao21 t849.length co21) := (zb BK853.out 1).trans rfl
           have hfz61_0 := za BK853.out 0
           have hfz61_1 := za BK853.out 1
           go_upto_region 23 with (first | ((with_reducible refine zd (f := 17) rfl ?_); refine zn (some 65) rfl rfl Try.func17 (by kernel_rfl) rfl #[.agg #[.int .i64 t848, .slice Ao21 t849.length co21], .int .i64 1] rfl sqM ?_; (with_reducible refine (jw.calls kj36 t848 (fun k_ => some k_ = (.slice Ao21 t849.length co21 : Value).ownBlock) (.slice Ao21 t849.length co21) t849 1 t862 t863 w _ ?side1 ?side2 A53.out).mono ?_); (case side1 => repeat (first | (with_reducible first | exact HB.out | apply jI | apply qh | apply qi | refine jt ?_ GE844.out | refine jt ?_ GE853.out) | exact HB.out)); (case side2 => exact Kd.QU rfl HO_854001.out); rintro e w62 ⟨rfl, hy0, hb, hkp⟩; refine ⟨_, rfl, ?_⟩; have n0_ := Aside0.mk (Kd.zu (ok' := fun k_ => some k_ ≠ (.slice Ao21 t849.length co21 : Value).ownBlock) (Kd.QQ (HO_845001.out) hkp (fun k_ hk_ hs_ => by first | exact hk_ hs_ | (have e_ : some k_ = _ := hs_; simp only [e_, ne_eq, not_true_eq_false, and_false, false_and] at hk_))) (fun k_ hk_ => hk_.1)); have n1_ := Aside0.mk (Kd.V8 rfl hy0 (fun k_ e_ => HO_854001.out.1 k_ e_)); have n2_ := Aside0.mk (Zb (sqK BK844.out) hkp (fun hs_ => (fun e_ => (Kd.Jd HO_854001.out BK844.out (by decide)) e_) hs_)); have n3_ := Aside0.mk (Zb (sqK BK853.out) hkp (fun hs_ => (fun e_ => (Kd.Jd HO_854001.out BK853.out (by decide)) e_) hs_)); have n4_ := Aside0.mk (hb); clear HO_845001; clear HO_854001; clear BK844; clear BK853; clear HB; have HO_845001 := n0_; have HO_854001 := n1_; have BK844 := n2_; have BK853 := n3_; have HB := n4_; clear n0_ n1_ n2_ n3_ n4_; (try clear hb); (try clear hkp); (try clear hy0); have hcz63_0 : w62.cell? ⟨gb853, 0, none⟩ = some (.int .i64 t848) := (zb BK853.out 0).trans rfl; have hcz63_1 : w62.cell? ⟨gb853, 1, none⟩ = some (.slice Ao21 t849.length co21) := (zb BK853.out 1).trans rfl; have hfz63_0 := za BK853.out 0; have hfz63_1 := za BK853.out 1) | ((with_reducible refine zd (f := 23) rfl ?_); refine zn (some 68) rfl rfl Try.func23 (by kernel_rfl) rfl #[.agg #[.int .i64 t848, .slice Ao21 t863.length co21], .int .i64 1] rfl (by (try simp only [List.map_toArray, List.map_cons, List.map_nil]); first | done | (rw [show t863.length = t849.length from (Kd.zh HO_854001.out).1.symm] <;> rfl) | rfl | (simp only [List.length_drop, List.length_take]; rfl)) ?_; (with_reducible refine (ja.calls kj36 t848 _ _ t863 1 t864 _ ?side1 ?side2 A54.out).mono ?_); (case side1 => exact sqC (Kd.zh HO_854001.out).2.2); (case side2 => rw [show t863.length = t849.length from (Kd.zh HO_854001.out).1.symm]; exact (Kd.zh HO_854001.out).2.1); rintro e w64 ⟨rfl, hb⟩; refine ⟨_, rfl, ?_⟩; have n0_ := Aside0.mk (Kd.zz (sqR HO_845001.out) hb); have n1_ := Aside0.mk (Kd.zz (sqR HO_854001.out) hb); have n2_ := Aside0.mk (ze (g := gb844) (o := .cells #[.int .i64 t839, .slice Ao14 t840.length co14] 27 (0, 0)) (sqK BK844.out) hb); have n3_ := Aside0.mk (ze (g := gb853) (o := .cells #[.int .i64 t848, .slice Ao21 t849.length co21] 27 (0, 0)) (sqK BK853.out) hb); have n4_ := Aside0.mk (zc sqB hb); clear HO_845001; clear HO_854001; clear BK844; clear BK853; clear HB; have HO_845001 := n0_; have HO_854001 := n1_; have BK844 := n2_; have BK853 := n3_; have HB := n4_; clear n0_ n1_ n2_ n3_ n4_; (try clear hb); (try clear hb2); (try clear hk); (try clear hi)) | ((with_reducible refine zd (f := 21) rfl ?_); refine zn (some 77) rfl rfl Try.func21 (by kernel_rfl) rfl #[.slice A1 l1.length c1] rfl sqM ?_; (with_reducible refine (qg.calls kj36 _ _ l1 t865 _ ?side1 ?side2 A57.out).mono ?_); (case side1 => exact sqC (Kd.zp HR1.out HB.out)); (case side2 => exact HC1.out); rintro e w65 ⟨v866, rfl, ho0, hb⟩; refine ⟨_, rfl, ?_⟩; have n0_ := Aside0.mk (Kd.zU (sqR HO_845001.out) (Kd.qt ho0) hb); have n1_ := Aside0.mk (Kd.zU (sqR HO_854001.out) (Kd.qt ho0) hb); have n2_ := Aside0.mk (Kd.zD (Kd.qu (Kd.qu ho0 (Kd.jd (sqR HO_845001.out))) (Kd.jd (sqR HO_854001.out))) (zg sqB)); have n3_ := Aside0.mk (ze (g := gb844) (o := .cells #[.int .i64 t839, .slice Ao14 t840.length co14] 27 (0, 0)) (sqK BK844.out) hb); have n4_ := Aside0.mk (ze (g := gb853) (o := .cells #[.int .i64 t848, .slice Ao21 t849.length co21] 27 (0, 0)) (sqK BK853.out) hb); have n5_ := Aside0.mk (zc sqB hb); clear HO_845001; clear HO_854001; clear BK844; clear BK853; clear HB; have HO_845001 := n0_; have HO_854001 := n1_; have HO867 := n2_; have BK844 := n3_; have BK853 := n4_; have HB := n5_; clear n0_ n1_ n2_ n3_ n4_ n5_; (try clear hb); (try clear hb2); (try clear hk); (try clear hi); (try clear ho0); obtain ⟨Ao66, co66, eo66⟩ := Kd.zR HO867.out; subst eo66) | ((with_reducible refine zd (f := 35) rfl ?_); refine zn (some 78) rfl rfl Try.func35 (by kernel_rfl) rfl #[.int .i64 a0, .slice Ao66 t865.length co66] rfl sqM ?_; (with_reducible refine (qj.calls kj36 a0 _ _ t865 t868 t869 t872 _ ?side1 ?side2 A58.out).mono ?_); (case side1 => exact sqC (Kd.zh HO867.out).2.2); (case side2 => exact (Kd.zh HO867.out).2.1); rintro e w67 ⟨v870, rfl, ho0, hb⟩; refine ⟨_, rfl, ?_⟩; have n0_ := Aside0.mk (Kd.zU (sqR HO_845001.out) (Kd.qt ho0) hb); have n1_ := Aside0.mk (Kd.zU (sqR HO_854001.out) (Kd.qt ho0) hb); have n2_ := Aside0.mk (Kd.zU (sqR HO867.out) (Kd.qt ho0) hb); have n3_ := Aside0.mk (Kd.zD (Kd.qu (Kd.qu (Kd.qu ho0 (Kd.jd (sqR HO_845001.out))) (Kd.jd (sqR HO_854001.out))) (Kd.jd (sqR HO867.out))) (zg sqB)); have n4_ := Aside0.mk (ze (g := gb844) (o := .cells #[.int .i64 t839, .slice Ao14 t840.length co14] 27 (0, 0)) (sqK BK844.out) hb); have n5_ := Aside0.mk (ze (g := gb853) (o := .cells #[.int .i64 t848, .slice Ao21 t849.length co21] 27 (0, 0)) (sqK BK853.out) hb); have n6_ := Aside0.mk (zc sqB hb); clear HO_845001; clear HO_854001; clear HO867; clear BK844; clear BK853; clear HB; have HO_845001 := n0_; have HO_854001 := n1_; have HO867 := n2_; have HO871 := n3_; have BK844 := n4_; have BK853 := n5_; have HB := n6_; clear n0_ n1_ n2_ n3_ n4_ n5_ n6_; (try clear hb); (try clear hb2); (try clear hk); (try clear hi); (try clear ho0)) | ((with_reducible refine zi (N := 13) rfl ?_); refine zl ?hg (N := 13) ?hd (cs := #[.int .i64 0, .slice none 0 0]) (t := 27) ?hr ?_; (case hd => rfl); (case hg => rfl); (case hr => exact sqG); intro gb873 hg w68 hbox hb; have n0_ := Aside0.mk (Kd.zz (sqR HO_845001.out) hb); have n1_ := Aside0.mk (Kd.zz (sqR HO_854001.out) hb); have n2_ := Aside0.mk (Kd.zz (sqR HO867.out) hb); have n3_ := Aside0.mk (Kd.zz (sqR HO871.out) hb); have n4_ := Aside0.mk (ze (g := gb844) (o := .cells #[.int .i64 t839, .slice Ao14 t840.length co14] 27 (0, 0)) (sqK BK844.out) hb); have n5_ := Aside0.mk (ze (g := gb853) (o := .cells #[.int .i64 t848, .slice Ao21 t849.length co21] 27 (0, 0)) (sqK BK853.out) hb); have n6_ := Aside0.mk (zc sqB hb); have n7_ := Aside0.mk (hbox); have n8_ := Aside0.mk ((sqS hg : w.heap.size ≤ gb873)); have n9_ := Aside0.mk ((sqS hg : w.heap.size ≤ gb873)); have n10_ := Aside0.mk ((by rw [hg]; exact Nat.ne_of_lt (zV (g := gb844) (o := .cells #[.int .i64 t839, .slice Ao14 t840.length co14] 27 (0, 0)) (sqK BK844.out)) : gb844 ≠ gb873)); have n11_ := Aside0.mk ((by rw [hg]; exact Nat.ne_of_gt (zV (g := gb844) (o := .cells #[.int .i64 t839, .slice Ao14 t840.length co14] 27 (0, 0)) (sqK BK844.out)) : gb873 ≠ gb844)); have n12_ := Aside0.mk ((by rw [hg]; exact Nat.ne_of_lt (zV (g := gb853) (o := .cells #[.int .i64 t848, .slice Ao21 t849.length co21] 27 (0, 0)) (sqK BK853.out)) : gb853 ≠ gb873)); have n13_ := Aside0.mk ((by rw [hg]; exact Nat.ne_of_gt (zV (g := gb853) (o := .cells #[.int .i64 t848, .slice Ao21 t849.length co21] 27 (0, 0)) (sqK BK853.out)) : gb873 ≠ gb853)); clear HO_845001; clear HO_854001; clear HO867; clear HO871; clear BK844; clear BK853; clear HB; have HO_845001 := n0_; have HO_854001 := n1_; have HO867 := n2_; have HO871 := n3_; have BK844 := n4_; have BK853 := n5_; have HB := n6_; have BK873 := n7_; have GW873 := n8_; have GE873 := n9_; have NB844_873 := n10_; have NB873_844 := n11_; have NB853_873 := n12_; have NB873_853 := n13_; clear n0_ n1_ n2_ n3_ n4_ n5_ n6_ n7_ n8_ n9_ n10_ n11_ n12_ n13_; clear hb hbox hg; have hnb69 := NB873_844.out; have hnc69 := NB844_873.out; have hnb70 := NB873_853.out; have hnc70 := NB853_873.out; have hcz71_0 : w68.cell? ⟨gb873, 0, none⟩ = some (.int .i64 0) := (zb BK873.out 0).trans rfl; have hcz71_1 : w68.cell? ⟨gb873, 1, none⟩ = some (.slice none 0 0) := (zb BK873.out 1).trans rfl; have hfz71_0 := za BK873.out 0; have hfz71_1 := za BK873.out 1; obtain ⟨Ao72, co72, eo72⟩ := Kd.zR HO871.out; subst eo72))
           (try simp only [Act.put, List.setIfInBounds_toArray, List.set_cons_zero, List.set_cons_succ])
           go_cut [89] (fun v89 wc => ∃ (kq : Nat) (x89_58 : Bool), v89 = .bool x89_58 ∧ Aside0 (zf.j2 kq t862 x89_58 t848 t863 = some r) ∧ Aside0 (kq ≤ kj36) ∧ Aside0 (Kd.R (Kd.int .i64) 3 wc w.heap.size (fun k_ => some k_ ≠ ((.slice Ao21 t849.length co21) : Value).ownBlock ∧ some k_ ≠ ((.slice Ao72 t869.length co72) : Value).ownBlock) (.slice Ao14 t840.length co14) t840) ∧ Aside0 (Kd.R (Kd.int .i64) 3 wc w.heap.size (fun k_ => some k_ ≠ ((.slice Ao14 t840.length co14) : Value).ownBlock ∧ some k_ ≠ ((.slice Ao72 t869.length co72) : Value).ownBlock) (.slice Ao21 t849.length co21) t863) ∧ Aside0 (Kd.R (Kd.int .i64) 3 wc w.heap.size (fun k_ => some k_ ≠ ((.slice Ao14 t840.length co14) : Value).ownBlock ∧ some k_ ≠ ((.slice Ao21 t849.length co21) : Value).ownBlock) (.slice Ao72 t869.length co72) t869) ∧ Aside0 (wc.heap[gb844]? = some (.cells #[.int .i64 t839, (.slice Ao14 t840.length co14)] 27 (0, 0))) ∧ Aside0 (wc.heap[gb853]? = some (.cells #[.int .i64 t848, (.slice Ao21 t849.length co21)] 27 (0, 0))) ∧ Aside0 (wc.heap[gb873]? = some (.cells #[.int .i64 t868, (.slice Ao72 t869.length co72)] 27 (0, 0))) ∧ Aside0 (Below w.heap.size w wc))
           case first =>
            have H := HC59.out
            clear HC59
            replace H := Option.bind_eq_some_iff.mp H
            obtain ⟨t874, A730, H⟩ := H
            replace H : (if t874 = true then (zf.j2 kj36 t862 (t872 != t843) t848 t863) else (zf.j2 kj36 t862 true t848 t863)) = some r := H
            have A73 := Aside0.mk A730
            clear A730
            by_cases c74 : t874 = true
            ·subst c74
             have H1 : (zf.j2 kj36 t862 (t872 != t843) t848 t863) = some r := by rw [if_pos rfl] at H; exact H
             clear H
             have H := H1
             clear H1
             have H' := Aside0.mk H
             clear H
             have hnb75 := NB873_844.out
             have hnc75 := NB844_873.out
             have hnb76 := NB873_853.out
             have hnc76 := NB853_873.out
             have hcz77_0 : w68.cell? ⟨gb873, 0, none⟩ = some (.int .i64 0) := (zb BK873.out 0).trans rfl
             have hcz77_1 : w68.cell? ⟨gb873, 1, none⟩ = some (.slice none 0 0) := (zb BK873.out 1).trans rfl
             have hfz77_0 := za BK873.out 0
             have hfz77_1 := za BK873.out 1
             have hnb78 := NB844_853.out
             have hnc78 := NB853_844.out
             have hcz79_0 : w68.cell? ⟨gb844, 0, none⟩ = some (.int .i64 t839) := (zb BK844.out 0).trans rfl
             have hcz79_1 : w68.cell? ⟨gb844, 1, none⟩ = some (.slice Ao14 t840.length co14) := (zb BK844.out 1).trans rfl
             have hfz79_0 := za BK844.out 0
             have hfz79_1 := za BK844.out 1
             go_wp2_with (first | ((with_reducible refine zd (f := 16) rfl ?_); refine zn (some 83) rfl rfl Try.func16 (by kernel_rfl) rfl #[.agg #[.int .i64 t868, .slice Ao72 t869.length co72], .agg #[.int .i64 t839, .slice Ao14 t840.length co14]] rfl sqM ?_; (with_reducible refine (z8.calls kj36 t868 _ _ t869 t839 _ _ t840 true _ ?side1 ?side2 ?side3 ?side4 A73.out).mono ?_); (case side1 => refine (Kd.zh (e := 3) (base := w.heap.size) (ok := fun k_ => (((True ∧ some k_ ≠ (.slice Ao14 t840.length co14 : Value).ownBlock) ∧ some k_ ≠ (.slice Ao21 t849.length co21 : Value).ownBlock) ∧ some k_ ≠ (.slice Ao66 t865.length co66 : Value).ownBlock)) (n := t869.length) (c := co72) ?_).2.2; exact (by refine sqR ?_; exact (Kd.zu (Kd.zC (p := ⟨gb873, 1, none⟩) (Kd.zC (p := ⟨gb873, 0, none⟩) (Kd.zK HO871.out BK873.out (by decide)) (fun _ hk => hk.2) (.int .i64 t868)) (fun _ hk => hk.2) (.slice Ao72 t869.length co72)) (fun _ h_ => h_.1)))); (case side2 => exact (Kd.zh HO871.out).2.1); (case side3 => refine (Kd.zh (e := 3) (base := w.heap.size) (ok := fun k_ => ((some k_ ≠ (.slice Ao21 t849.length co21 : Value).ownBlock ∧ some k_ ≠ (.slice Ao66 t865.length co66 : Value).ownBlock) ∧ some k_ ≠ (.slice Ao72 t869.length co72 : Value).ownBlock)) (n := t840.length) (c := co14) ?_).2.2; exact (by refine sqR ?_; exact (Kd.zu (Kd.zC (p := ⟨gb873, 1, none⟩) (Kd.zC (p := ⟨gb873, 0, none⟩) (Kd.zK HO_845001.out BK873.out (by decide)) (fun _ hk => hk.2) (.int .i64 t868)) (fun _ hk => hk.2) (.slice Ao72 t869.length co72)) (fun _ h_ => h_.1)))); (case side4 => exact (Kd.zh HO_845001.out).2.1); rintro e w80 ⟨rfl, hb⟩; refine ⟨_, rfl, ?_⟩; have n0_ := Aside0.mk (Kd.zz (by refine sqR ?_; exact (Kd.zu (Kd.zC (p := ⟨gb873, 1, none⟩) (Kd.zC (p := ⟨gb873, 0, none⟩) (Kd.zK HO_845001.out BK873.out (by decide)) (fun _ hk => hk.2) (.int .i64 t868)) (fun _ hk => hk.2) (.slice Ao72 t869.length co72)) (fun _ h_ => h_.1))) hb); have n1_ := Aside0.mk (Kd.zz (by refine sqR ?_; exact (Kd.zu (Kd.zC (p := ⟨gb873, 1, none⟩) (Kd.zC (p := ⟨gb873, 0, none⟩) (Kd.zK HO_854001.out BK873.out (by decide)) (fun _ hk => hk.2) (.int .i64 t868)) (fun _ hk => hk.2) (.slice Ao72 t869.length co72)) (fun _ h_ => h_.1))) hb); have n2_ := Aside0.mk (Kd.zz (by refine sqR ?_; exact (Kd.zu (Kd.zC (p := ⟨gb873, 1, none⟩) (Kd.zC (p := ⟨gb873, 0, none⟩) (Kd.zK HO867.out BK873.out (by decide)) (fun _ hk => hk.2) (.int .i64 t868)) (fun _ hk => hk.2) (.slice Ao72 t869.length co72)) (fun _ h_ => h_.1))) hb); have n3_ := Aside0.mk (Kd.zz (by refine sqR ?_; exact (Kd.zu (Kd.zC (p := ⟨gb873, 1, none⟩) (Kd.zC (p := ⟨gb873, 0, none⟩) (Kd.zK HO871.out BK873.out (by decide)) (fun _ hk => hk.2) (.int .i64 t868)) (fun _ hk => hk.2) (.slice Ao72 t869.length co72)) (fun _ h_ => h_.1))) hb); have n4_ := Aside0.mk (ze (g := gb844) (o := .cells #[.int .i64 t839, .slice Ao14 t840.length co14] 27 (0, 0)) (by refine sqK ?_; refine qk ?_ NB844_873.out _; refine sqK ?_; refine qk ?_ NB844_873.out _; refine sqK ?_; exact BK844.out) hb); have n5_ := Aside0.mk (ze (g := gb853) (o := .cells #[.int .i64 t848, .slice Ao21 t849.length co21] 27 (0, 0)) (by refine sqK ?_; refine qk ?_ NB853_873.out _; refine sqK ?_; refine qk ?_ NB853_873.out _; refine sqK ?_; exact BK853.out) hb); have n6_ := Aside0.mk (ze (g := gb873) (o := .cells #[.int .i64 t868, .slice Ao72 t869.length co72] 27 (0, 0)) (by refine sqK ?_; refine zB (cs := #[.int .i64 t868, .slice none 0 0]) ?_ 1 _ rfl; refine sqK ?_; refine zB (cs := #[.int .i64 0, .slice none 0 0]) ?_ 0 _ rfl; refine sqK ?_; exact BK873.out) hb); have n7_ := Aside0.mk (zc sqB hb); clear HO_845001; clear HO_854001; clear HO867; clear HO871; clear BK844; clear BK853; clear BK873; clear HB; have HO_845001 := n0_; have HO_854001 := n1_; have HO867 := n2_; have HO871 := n3_; have BK844 := n4_; have BK853 := n5_; have BK873 := n6_; have HB := n7_; clear n0_ n1_ n2_ n3_ n4_ n5_ n6_ n7_; (try clear hb); (try clear hb2); (try clear hk); (try clear hi)))
             go_meet
             case rel => exact ⟨_, ((t872 != t843)), (sqD), H', ⟨by have := HJ7.out; have := HJ36.out; first | omega | exact Nat.le_refl _⟩, ⟨by refine sqR ?_; exact Kd.zu HO_845001.out (fun _ hk => by first | exact ⟨hk.1.1, hk.2⟩ | (refine ⟨?_, ?_⟩ <;> intro e_ <;> simp only [e_, ne_eq, not_true_eq_false, and_false, false_and] at hk))⟩, ⟨by refine sqR ?_; exact Kd.zu HO_854001.out (fun _ hk => by first | exact ⟨hk.1.1, hk.2⟩ | (refine ⟨?_, ?_⟩ <;> intro e_ <;> simp only [e_, ne_eq, not_true_eq_false, and_false, false_and] at hk))⟩, ⟨by refine sqR ?_; exact Kd.zu HO871.out (fun _ hk => by first | exact ⟨hk.1.1.2, hk.1.2⟩ | (refine ⟨?_, ?_⟩ <;> intro e_ <;> simp only [e_, ne_eq, not_true_eq_false, and_false, false_and] at hk))⟩, ⟨sqK BK844.out⟩, ⟨sqK BK853.out⟩, ⟨sqK BK873.out⟩, ⟨sqB⟩⟩
            ·replace c74 := Bool.eq_false_iff.mpr c74
             subst c74
             have H1 : (zf.j2 kj36 t862 true t848 t863) = some r := by rw [if_neg (show ¬ (false = true) by decide)] at H; exact H
             clear H
             have H := H1
             clear H1
             have H' := Aside0.mk H
             clear H
             have hnb81 := NB873_844.out
             have hnc81 := NB844_873.out
             have hnb82 := NB873_853.out
             have hnc82 := NB853_873.out
             have hcz83_0 : w68.cell? ⟨gb873, 0, none⟩ = some (.int .i64 0) := (zb BK873.out 0).trans rfl
             have hcz83_1 : w68.cell? ⟨gb873, 1, none⟩ = some (.slice none 0 0) := (zb BK873.out 1).trans rfl
             have hfz83_0 := za BK873.out 0
             have hfz83_1 := za BK873.out 1
             have hnb84 := NB844_853.out
             have hnc84 := NB853_844.out
             have hcz85_0 : w68.cell? ⟨gb844, 0, none⟩ = some (.int .i64 t839) := (zb BK844.out 0).trans rfl
             have hcz85_1 : w68.cell? ⟨gb844, 1, none⟩ = some (.slice Ao14 t840.length co14) := (zb BK844.out 1).trans rfl
             have hfz85_0 := za BK844.out 0
             have hfz85_1 := za BK844.out 1
             go_wp2_with (first | ((with_reducible refine zd (f := 16) rfl ?_); refine zn (some 83) rfl rfl Try.func16 (by kernel_rfl) rfl #[.agg #[.int .i64 t868, .slice Ao72 t869.length co72], .agg #[.int .i64 t839, .slice Ao14 t840.length co14]] rfl sqM ?_; (with_reducible refine (z8.calls kj36 t868 _ _ t869 t839 _ _ t840 false _ ?side1 ?side2 ?side3 ?side4 A73.out).mono ?_); (case side1 => refine (Kd.zh (e := 3) (base := w.heap.size) (ok := fun k_ => (((True ∧ some k_ ≠ (.slice Ao14 t840.length co14 : Value).ownBlock) ∧ some k_ ≠ (.slice Ao21 t849.length co21 : Value).ownBlock) ∧ some k_ ≠ (.slice Ao66 t865.length co66 : Value).ownBlock)) (n := t869.length) (c := co72) ?_).2.2; exact (by refine sqR ?_; exact (Kd.zu (Kd.zC (p := ⟨gb873, 1, none⟩) (Kd.zC (p := ⟨gb873, 0, none⟩) (Kd.zK HO871.out BK873.out (by decide)) (fun _ hk => hk.2) (.int .i64 t868)) (fun _ hk => hk.2) (.slice Ao72 t869.length co72)) (fun _ h_ => h_.1)))); (case side2 => exact (Kd.zh HO871.out).2.1); (case side3 => refine (Kd.zh (e := 3) (base := w.heap.size) (ok := fun k_ => ((some k_ ≠ (.slice Ao21 t849.length co21 : Value).ownBlock ∧ some k_ ≠ (.slice Ao66 t865.length co66 : Value).ownBlock) ∧ some k_ ≠ (.slice Ao72 t869.length co72 : Value).ownBlock)) (n := t840.length) (c := co14) ?_).2.2; exact (by refine sqR ?_; exact (Kd.zu (Kd.zC (p := ⟨gb873, 1, none⟩) (Kd.zC (p := ⟨gb873, 0, none⟩) (Kd.zK HO_845001.out BK873.out (by decide)) (fun _ hk => hk.2) (.int .i64 t868)) (fun _ hk => hk.2) (.slice Ao72 t869.length co72)) (fun _ h_ => h_.1)))); (case side4 => exact (Kd.zh HO_845001.out).2.1); rintro e w86 ⟨rfl, hb⟩; refine ⟨_, rfl, ?_⟩; have n0_ := Aside0.mk (Kd.zz (by refine sqR ?_; exact (Kd.zu (Kd.zC (p := ⟨gb873, 1, none⟩) (Kd.zC (p := ⟨gb873, 0, none⟩) (Kd.zK HO_845001.out BK873.out (by decide)) (fun _ hk => hk.2) (.int .i64 t868)) (fun _ hk => hk.2) (.slice Ao72 t869.length co72)) (fun _ h_ => h_.1))) hb); have n1_ := Aside0.mk (Kd.zz (by refine sqR ?_; exact (Kd.zu (Kd.zC (p := ⟨gb873, 1, none⟩) (Kd.zC (p := ⟨gb873, 0, none⟩) (Kd.zK HO_854001.out BK873.out (by decide)) (fun _ hk => hk.2) (.int .i64 t868)) (fun _ hk => hk.2) (.slice Ao72 t869.length co72)) (fun _ h_ => h_.1))) hb); have n2_ := Aside0.mk (Kd.zz (by refine sqR ?_; exact (Kd.zu (Kd.zC (p := ⟨gb873, 1, none⟩) (Kd.zC (p := ⟨gb873, 0, none⟩) (Kd.zK HO867.out BK873.out (by decide)) (fun _ hk => hk.2) (.int .i64 t868)) (fun _ hk => hk.2) (.slice Ao72 t869.length co72)) (fun _ h_ => h_.1))) hb); have n3_ := Aside0.mk (Kd.zz (by refine sqR ?_; exact (Kd.zu (Kd.zC (p := ⟨gb873, 1, none⟩) (Kd.zC (p := ⟨gb873, 0, none⟩) (Kd.zK HO871.out BK873.out (by decide)) (fun _ hk => hk.2) (.int .i64 t868)) (fun _ hk => hk.2) (.slice Ao72 t869.length co72)) (fun _ h_ => h_.1))) hb); have n4_ := Aside0.mk (ze (g := gb844) (o := .cells #[.int .i64 t839, .slice Ao14 t840.length co14] 27 (0, 0)) (by refine sqK ?_; refine qk ?_ NB844_873.out _; refine sqK ?_; refine qk ?_ NB844_873.out _; refine sqK ?_; exact BK844.out) hb); have n5_ := Aside0.mk (ze (g := gb853) (o := .cells #[.int .i64 t848, .slice Ao21 t849.length co21] 27 (0, 0)) (by refine sqK ?_; refine qk ?_ NB853_873.out _; refine sqK ?_; refine qk ?_ NB853_873.out _; refine sqK ?_; exact BK853.out) hb); have n6_ := Aside0.mk (ze (g := gb873) (o := .cells #[.int .i64 t868, .slice Ao72 t869.length co72] 27 (0, 0)) (by refine sqK ?_; refine zB (cs := #[.int .i64 t868, .slice none 0 0]) ?_ 1 _ rfl; refine sqK ?_; refine zB (cs := #[.int .i64 0, .slice none 0 0]) ?_ 0 _ rfl; refine sqK ?_; exact BK873.out) hb); have n7_ := Aside0.mk (zc sqB hb); clear HO_845001; clear HO_854001; clear HO867; clear HO871; clear BK844; clear BK853; clear BK873; clear HB; have HO_845001 := n0_; have HO_854001 := n1_; have HO867 := n2_; have HO871 := n3_; have BK844 := n4_; have BK853 := n5_; have BK873 := n6_; have HB := n7_; clear n0_ n1_ n2_ n3_ n4_ n5_ n6_ n7_; (try clear hb); (try clear hb2); (try clear hk); (try clear hi)))
             go_meet
             case rel => exact ⟨_, (true), (sqD), H', ⟨by have := HJ7.out; have := HJ36.out; first | omega | exact Nat.le_refl _⟩, ⟨by refine sqR ?_; exact Kd.zu HO_845001.out (fun _ hk => by first | exact ⟨hk.1.1, hk.2⟩ | (refine ⟨?_, ?_⟩ <;> intro e_ <;> simp only [e_, ne_eq, not_true_eq_false, and_false, false_and] at hk))⟩, ⟨by refine sqR ?_; exact Kd.zu HO_854001.out (fun _ hk => by first | exact ⟨hk.1.1, hk.2⟩ | (refine ⟨?_, ?_⟩ <;> intro e_ <;> simp only [e_, ne_eq, not_true_eq_false, and_false, false_and] at hk))⟩, ⟨by refine sqR ?_; exact Kd.zu HO871.out (fun _ hk => by first | exact ⟨hk.1.1.2, hk.1.2⟩ | (refine ⟨?_, ?_⟩ <;> intro e_ <;> simp only [e_, ne_eq, not_true_eq_false, and_false, false_and] at hk))⟩, ⟨sqK BK844.out⟩, ⟨sqK BK853.out⟩, ⟨sqK BK873.out⟩, ⟨sqB⟩⟩
           case rest =>
            clear HC59
            try clear c1
            try clear c2
            try clear p2
            try clear c3
            try clear c3b0
            try clear c3b1
            try clear c4
            try clear c5
            try clear c6
            try clear c7
            try clear c8
            try clear c10
            try clear c15
            try clear c16
            try clear c17
            try clear c18
            try clear c19
            try clear c21
            try clear c23
            try clear c24
            try clear c28
            try clear c32
            try clear c34
            try clear c35
            try clear c41
            try clear c41b0
            try clear c43
            try clear c44
            try clear c48
            try clear c52
            try clear c55
            try clear c55b0
            try clear c56
            try clear c56b0
            try clear c56b1
            try clear c60
            try clear c69
            try clear c70
            try clear c74
            try clear c75
            try clear c76
            try clear c78
            try clear c81
            try clear c82
            try clear c84
            try clear hcz13_0
            try clear hcz13_1
            try clear hcz20_0
            try clear hcz20_1
            try clear hcz25_0
            try clear hcz25_1
            try clear hcz26_0
            try clear hcz26_1
            try clear hcz29_0
            try clear hcz29_1
            try clear hcz30_0
            try clear hcz30_1
            try clear hcz45_0
            try clear hcz45_1
            try clear hcz46_0
            try clear hcz46_1
            try clear hcz49_0
            try clear hcz49_1
            try clear hcz50_0
            try clear hcz50_1
            try clear hcz61_0
            try clear hcz61_1
            try clear hcz63_0
            try clear hcz63_1
            try clear hcz71_0
            try clear hcz71_1
            try clear hcz77_0
            try clear hcz77_1
            try clear hcz79_0
            try clear hcz79_1
            try clear hcz83_0
            try clear hcz83_1
            try clear hcz85_0
            try clear hcz85_1
            try clear hfz13_0
            try clear hfz13_1
            try clear hfz20_0
            try clear hfz20_1
            try clear hfz25_0
            try clear hfz25_1
            try clear hfz26_0
            try clear hfz26_1
            try clear hfz29_0
            try clear hfz29_1
            try clear hfz30_0
            try clear hfz30_1
            try clear hfz45_0
            try clear hfz45_1
            try clear hfz46_0
            try clear hfz46_1
            try clear hfz49_0
            try clear hfz49_1
            try clear hfz50_0
            try clear hfz50_1
            try clear hfz61_0
            try clear hfz61_1
            try clear hfz63_0
            try clear hfz63_1
            try clear hfz71_0
            try clear hfz71_1
            try clear hfz77_0
            try clear hfz77_1
            try clear hfz79_0
            try clear hfz79_1
            try clear hfz83_0
            try clear hfz83_1
            try clear hfz85_0
            try clear hfz85_1
            try clear p2
            obtain ⟨kq, x89_58, rfl, HA, HJ58, HO_845001, HO_854001, HO_874001, BK844, BK853, BK873, HB⟩ := hcut
            have hl854001_58 := (Kd.zh HO_854001.out).1
            rw [hl854001_58] at HO_854001
            (try simp only [hl854001_58])
            (try simp only [hl854001_58] at BK844)
            (try simp only [hl854001_58] at BK853)
            (try simp only [hl854001_58] at BK873)
            (try simp only [hl854001_58] at HO_845001)
            (try simp only [hl854001_58] at HO_874001)
            cases kq with
            | zero => exact absurd HA.out (by simp [zf.j2])
            | succ kj58 =>
             have H := HA.out
             clear HA
             simp only [zf.j2] at H
             by_cases c87 : x89_58 = true
             ·subst c87
              have H1 : (none) = some r := by rw [if_pos rfl] at H; exact H
              clear H
              have H := H1
              clear H1
              exact absurd H (by simp)
             ·replace c87 := Bool.eq_false_iff.mpr c87
              subst c87
              have H1 : ((ja.f kj58 t848 t863 1).bind fun t875 => (if t875 < 0 then (none) else (if t875 = t862 then (some true) else (none)))) = some r := by rw [if_neg (show ¬ (false = true) by decide)] at H; exact H
              clear H
              have H := H1
              clear H1
              replace H := Option.bind_eq_some_iff.mp H
              obtain ⟨t875, A880, H⟩ := H
              replace H : (if t875 < 0 then (none) else (if t875 = t862 then (some true) else (none))) = some r := H
              have A88 := Aside0.mk A880
              clear A880
              by_cases c89 : t875 < 0
              ·rw [if_pos c89] at H
               exact absurd H (by simp)
              ·rw [if_neg c89] at H
               have c89b0 : decide (t875 < 0) = false := decide_eq_false c89
               clear c89
               by_cases c90 : t875 = t862
               ·rw [if_pos c90] at H
                have c90b0 : (t875 == t862) = true := beq_iff_eq.mpr c90
                have c90b1 : (t875 != t862) = false := bne_eq_false_iff_eq.mpr c90
                clear c90
                obtain rfl := Option.some.inj H
                have hnb91 := NB853_844.out
                have hnc91 := NB844_853.out
                have hnb92 := NB853_873.out
                have hnc92 := NB873_853.out
                have hcz93_0 : wc.cell? ⟨gb853, 0, none⟩ = some (.int .i64 t848) := (zb BK853.out 0).trans rfl
                have hcz93_1 : wc.cell? ⟨gb853, 1, none⟩ = some (.slice Ao21 t863.length co21) := (zb BK853.out 1).trans rfl
                have hfz93_0 := za BK853.out 0
                have hfz93_1 := za BK853.out 1
                go_wp2_with (first | ((with_reducible refine zd (f := 23) rfl ?_); refine zn (some 92) rfl rfl Try.func23 (by kernel_rfl) rfl #[.agg #[.int .i64 t848, .slice Ao21 t863.length co21], .int .i64 1] rfl sqM ?_; (with_reducible refine (ja.calls kj58 t848 _ _ t863 1 t875 _ ?side1 ?side2 A88.out).mono ?_); (case side1 => exact sqC (Kd.zh HO_854001.out).2.2); (case side2 => exact (Kd.zh HO_854001.out).2.1); rintro e w94 ⟨rfl, hb⟩; refine ⟨_, rfl, ?_⟩; have n0_ := Aside0.mk (Kd.zz (sqR HO_845001.out) hb); have n1_ := Aside0.mk (Kd.zz (sqR HO_854001.out) hb); have n2_ := Aside0.mk (Kd.zz (sqR HO_874001.out) hb); have n3_ := Aside0.mk (ze (g := gb844) (o := .cells #[.int .i64 t839, .slice Ao14 t840.length co14] 27 (0, 0)) (sqK BK844.out) hb); have n4_ := Aside0.mk (ze (g := gb853) (o := .cells #[.int .i64 t848, .slice Ao21 t863.length co21] 27 (0, 0)) (sqK BK853.out) hb); have n5_ := Aside0.mk (ze (g := gb873) (o := .cells #[.int .i64 t868, .slice Ao72 t869.length co72] 27 (0, 0)) (sqK BK873.out) hb); have n6_ := Aside0.mk (zc sqB hb); clear HO_845001; clear HO_854001; clear HO_874001; clear BK844; clear BK853; clear BK873; clear HB; have HO_845001 := n0_; have HO_854001 := n1_; have HO_874001 := n2_; have BK844 := n3_; have BK853 := n4_; have BK873 := n5_; have HB := n6_; clear n0_ n1_ n2_ n3_ n4_ n5_ n6_; (try clear hb); (try clear hb2); (try clear hk); (try clear hi)))
                go_ret
                exact ⟨sqE, sqB⟩
               ·rw [if_neg c90] at H
                exact absurd H (by simp)
          ·rw [if_neg c56] at H
           exact absurd H (by simp)
     ·replace c35 := Bool.eq_false_iff.mpr c35
      subst c35
      have H1 : (none) = some r := by rw [if_neg (show ¬ (false = true) by decide)] at H; exact H
      clear H
      have H := H1
      clear H1
      exact absurd H (by simp)

end Go.Proofs.Yteggmbhcnhbamaa.F
end
section
namespace Go.Proofs.Yteggmbhcnhbamaa.F
open Go.RowKit Go.Proofs.YteggmbhcnhbamaaW.PrintWords Go.Proofs.YteggmbhcnhbamaaW.PrintLast Go.Proofs.YteggmbhcnhbamaaW.PrintMore
set_option linter.unusedSimpArgs false
set_option linter.unusedVariables false
def z7.q (k : Nat) (n : Int) (l : List Int) (s : Int) : Option Bool := qm.f k n l s
def z7.f (k : Nat) (a0_0 : Int) (l0_1 : List Int) : Option (List Int) := (zZ.f k a0_0 l0_1).bind fun t => if t = true then vE (z7.q k a0_0 l0_1) k a0_0 [] 0 else some []
theorem z7.pred (k : Nat) (l : List Int) (n : Int) (A : Option Addr) (c gm : Nat) (w : World) (hm : w.heap[gm]? = some (.cells #[.int .i64 n, .slice A l.length c] 27 (0, 0)))
    (hr : Kd.C (Kd.int .i64) w A l.length l) (hc : l.length ≤ c) : y8 92 #[.pointer (some ⟨gm, 0, none⟩)] (z7.q k n l) w := by
  intro W x r hq hb
  unfold z7.q at hq
  have hc0 : W.cell? ⟨gm, 0, none⟩ = some (.int .i64 n) := (zb (ze hm hb) 0).trans rfl
  have hc1 : W.cell? ⟨gm, 1, none⟩ = some (.slice A l.length c) := (zb (ze hm hb) 1).trans rfl
  have HR := Aside0.mk (Kd.zp hr hb)
  have HC := Aside0.mk hc
  have H := Aside0.mk hq
  have hu := Try.underlying27
  clear hq hm hr hc hb
  go_enter Try.func92, Try.ntmps92
  go_wp2_with (go_at_call 79; (try simp only [zj, zo]); (with_reducible refine (qm.calls k n _ _ l x r _ HR.out HC.out H.out).mono ?_); rintro e w' ⟨rfl, hb⟩)
  go_ret
  exact ⟨by first | rfl | simp, by first | exact hb | (obtain ⟨nd, rfl⟩ := hb; exact qh (Below.refl _ _) nd)⟩
theorem z7.calls (k : Nat) (a0_0 : Int) (A0_1 : Option Addr) (c0_1 : Nat) (l0_1 : List Int) (r : List Int) (w : World) (hr0_1 : Kd.C (Kd.int .i64) w A0_1 l0_1.length l0_1) (hc0_1 : l0_1.length ≤ c0_1) (h : z7.f k a0_0 l0_1 = some r) :
    Calls Try.prog 55 #[.agg #[.int .i64 a0_0, .slice A0_1 l0_1.length c0_1]] w fun e w' => ∃ v0_ : Value, e = .returned (v0_) ∧ Kd.R (Kd.int .i64) 3 w' w.heap.size (fun _ => True) v0_ r ∧ Below w.heap.size w w' := by
  have hum := Try.underlying27
  unfold z7.f at h
  obtain ⟨t, ht, h⟩ := Option.bind_eq_some_iff.mp h
  have HR := Aside0.mk hr0_1
  have HC := Aside0.mk hc0_1
  have HT := Aside0.mk ht
  have H := Aside0.mk h
  clear hr0_1 hc0_1 h ht
  cases t with
  | false =>
    have hn : r = [] := by have := H.out; simpa using this.symm
    subst hn
    clear H
    go_enter Try.func55, Try.ntmps55
    go_wp2_with (first
      | ((with_reducible refine zi (N := 1) rfl ?_); refine zl ?hg (N := 1) ?hd (cs := #[.int .i64 a0_0, .slice A0_1 l0_1.length c0_1]) (t := 27) ?hr ?_; (case hd => rfl); (case hg => rfl); (case hr => exact sqG); intro gm hg w4 hbox hb; have HB1 := Aside0.mk hb; have BKm := Aside0.mk hbox; have hcz0 : w4.cell? ⟨gm, 0, none⟩ = some (.int .i64 a0_0) := (zb BKm.out 0).trans rfl; have hcz1 : w4.cell? ⟨gm, 1, none⟩ = some (.slice A0_1 l0_1.length c0_1) := (zb BKm.out 1).trans rfl; clear hb hbox hg)
      | (go_at_call 42; (try simp only [zj, zo]); (with_reducible refine (zZ.calls k a0_0 _ _ l0_1 false _ (Kd.zp HR.out HB1.out) HC.out HT.out).mono ?_); rintro e w' ⟨rfl, hb⟩; have HB2 := Aside0.mk (zc HB1.out hb); clear hb hcz0 hcz1 HB1))
    go_ret
    exact ⟨_, rfl, Kd.QC _ _ _ _ _, HB2.out⟩
  | true =>
    have H' := Aside0.mk (show vE (z7.q k a0_0 l0_1) k a0_0 [] 0 = some r by have := H.out; simpa using this)
    clear H
    go_enter Try.func55, Try.ntmps55
    go_wp2_with (first
      | ((with_reducible refine zi (N := 1) rfl ?_); refine zl ?hg (N := 1) ?hd (cs := #[.int .i64 a0_0, .slice A0_1 l0_1.length c0_1]) (t := 27) ?hr ?_; (case hd => rfl); (case hg => rfl); (case hr => exact sqG); intro gm hg w4 hbox hb; have HB1 := Aside0.mk hb; have BKm := Aside0.mk hbox; have hcz0 : w4.cell? ⟨gm, 0, none⟩ = some (.int .i64 a0_0) := (zb BKm.out 0).trans rfl; have hcz1 : w4.cell? ⟨gm, 1, none⟩ = some (.slice A0_1 l0_1.length c0_1) := (zb BKm.out 1).trans rfl; clear hb hbox hg)
      | (go_at_call 42; (try simp only [zj, zo]); (with_reducible refine (zZ.calls k a0_0 _ _ l0_1 true _ (Kd.zp HR.out HB1.out) HC.out HT.out).mono ?_); rintro e w5 ⟨rfl, hb⟩; have HB2 := Aside0.mk (zc HB1.out hb); have BK2 := Aside0.mk (ze BKm.out hb); clear hb hcz0 hcz1 HB1 BKm; have hcz0 : w5.cell? ⟨gm, 0, none⟩ = some (.int .i64 a0_0) := (zb BK2.out 0).trans rfl; have hcz1 : w5.cell? ⟨gm, 1, none⟩ = some (.slice A0_1 l0_1.length c0_1) := (zb BK2.out 1).trans rfl))
    refine (vr (z7.q k a0_0 l0_1) _ _ (enters_of Try.func92 (by kernel_rfl) rfl) k a0_0 r _ (z7.pred k l0_1 a0_0 _ c0_1 gm _ BK2.out (Kd.zp HR.out HB2.out) HC.out) H'.out).mono ?_
    rintro e w9 ⟨v, rfl, ho, hb⟩
    have HO := Aside0.mk (Kd.zD ho (zg HB2.out))
    have HB := Aside0.mk (zc HB2.out hb)
    clear ho hb hcz0 hcz1
    go_wp2
    go_ret
    exact ⟨_, rfl, HO.out, HB.out⟩
end Go.Proofs.Yteggmbhcnhbamaa.F
end
section
namespace Go.Proofs.Yteggmbhcnhbamaa.F
open Go.RowKit Go.Proofs.YteggmbhcnhbamaaW.PrintWords Go.Proofs.YteggmbhcnhbamaaW.PrintLast Go.Proofs.YteggmbhcnhbamaaW.PrintMore
attribute [local go_sem] qJ qM q2 q4 qy qx qL qK   -- for this text's walks alone
set_option linter.unusedVariables false
set_option linter.unusedSimpArgs false

def vY.f (k : Nat) (a0 : Int) (l1 : List Int) : Option (Int × List Int × Bool) := (zE.f k a0 l1).bind fun t358 => (if t358 = true then ((zS.f k a0 l1).bind fun bt359 => (if bt359.2.2 = true then ((z7.f k bt359.1 bt359.2.1).bind fun t365 => ((zq.f k t365 l1).bind fun t368 => (if t368 = true then (some (bt359.1, bt359.2.1, true)) else (some (0, ([] : List Int), false))))) else (some (0, ([] : List Int), false)))) else (some (0, ([] : List Int), false)))
theorem vY.calls (k : Nat) (a0 : Int) (A1 : Option Addr) (c1 : Nat) (l1 : List Int) (r1 : Int) (r2 : List Int) (r3 : Bool) (w : World) (hr1 : Kd.C (Kd.int .i64) w A1 l1.length l1) (hc1 : l1.length ≤ c1) (h : vY.f k a0 l1 = some (r1, r2, r3)) :
  Calls Try.prog 22 #[.int .i64 a0, .slice A1 l1.length c1] w fun e w' => ∃ v1_ : Value, e = .returned (.tuple #[.agg #[.int .i64 r1, v1_], .bool r3]) ∧ Kd.R (Kd.int .i64) 3 w' w.heap.size (fun _ => True) v1_ r2 ∧ Below w.heap.size w w' := by
 have hu27 := Try.underlying27
 have HR1 := Aside0.mk hr1
 have HC1 := Aside0.mk hc1
 clear hr1 hc1
 have HB := Aside0.mk (Below.refl w.heap.size w)
 have H : ((zE.f k a0 l1).bind fun t358 => (if t358 = true then ((zS.f k a0 l1).bind fun bt359 => (if bt359.2.2 = true then ((z7.f k bt359.1 bt359.2.1).bind fun t365 => ((zq.f k t365 l1).bind fun t368 => (if t368 = true then (some (bt359.1, bt359.2.1, true)) else (some (0, ([] : List Int), false))))) else (some (0, ([] : List Int), false)))) else (some (0, ([] : List Int), false)))) = some (r1, r2, r3) := h
 clear h
 replace H := Option.bind_eq_some_iff.mp H
 obtain ⟨t358, A30, H⟩ := H
 replace H : (if t358 = true then ((zS.f k a0 l1).bind fun bt359 => (if bt359.2.2 = true then ((z7.f k bt359.1 bt359.2.1).bind fun t365 => ((zq.f k t365 l1).bind fun t368 => (if t368 = true then (some (bt359.1, bt359.2.1, true)) else (some (0, ([] : List Int), false))))) else (some (0, ([] : List Int), false)))) else (some (0, ([] : List Int), false))) = some (r1, r2, r3) := H
 have A3 := Aside0.mk A30
 clear A30
 by_cases c4 : t358 = true
 ·subst c4
  have H1 : ((zS.f k a0 l1).bind fun bt359 => (if bt359.2.2 = true then ((z7.f k bt359.1 bt359.2.1).bind fun t365 => ((zq.f k t365 l1).bind fun t368 => (if t368 = true then (some (bt359.1, bt359.2.1, true)) else (some (0, ([] : List Int), false))))) else (some (0, ([] : List Int), false)))) = some (r1, r2, r3) := by rw [if_pos rfl] at H; exact H
  clear H
  have H := H1
  clear H1
  replace H := Option.bind_eq_some_iff.mp H
  obtain ⟨⟨t359, t360, t363⟩, A50, H⟩ := H
  replace H : (if t363 = true then ((z7.f k t359 t360).bind fun t365 => ((zq.f k t365 l1).bind fun t368 => (if t368 = true then (some (t359, t360, true)) else (some (0, ([] : List Int), false))))) else (some (0, ([] : List Int), false))) = some (r1, r2, r3) := H
  have A5 := Aside0.mk A50
  clear A50
  by_cases c6 : t363 = true
  ·subst c6
   have H1 : ((z7.f k t359 t360).bind fun t365 => ((zq.f k t365 l1).bind fun t368 => (if t368 = true then (some (t359, t360, true)) else (some (0, ([] : List Int), false))))) = some (r1, r2, r3) := by rw [if_pos rfl] at H; exact H
   clear H
   have H := H1
   clear H1
   replace H := Option.bind_eq_some_iff.mp H
   obtain ⟨t365, A70, H⟩ := H
   replace H : ((zq.f k t365 l1).bind fun t368 => (if t368 = true then (some (t359, t360, true)) else (some (0, ([] : List Int), false)))) = some (r1, r2, r3) := H
   have A7 := Aside0.mk A70
   clear A70
   replace H := Option.bind_eq_some_iff.mp H
   obtain ⟨t368, A80, H⟩ := H
   replace H : (if t368 = true then (some (t359, t360, true)) else (some (0, ([] : List Int), false))) = some (r1, r2, r3) := H
   have A8 := Aside0.mk A80
   clear A80
   by_cases c9 : t368 = true
   ·subst c9
    have H1 : (some (t359, t360, true)) = some (r1, r2, r3) := by rw [if_pos rfl] at H; exact H
    clear H
    have H := H1
    clear H1
    simp only [Option.some.injEq, Prod.mk.injEq] at H
    obtain ⟨rfl, rfl, rfl⟩ := H
    go_enter Try.func22, Try.ntmps22
    go_wp2_with (first | ((with_reducible refine zi (N := 4) rfl ?_); refine zl ?hg (N := 4) ?hd (cs := #[.int .i64 0, .slice none 0 0]) (t := 27) ?hr ?_; (case hd => rfl); (case hg => rfl); (case hr => exact sqG); intro gb357 hg w10 hbox hb; have n0_ := Aside0.mk (zc sqB hb); have n1_ := Aside0.mk (hbox); have n2_ := Aside0.mk ((sqS hg : w.heap.size ≤ gb357)); have n3_ := Aside0.mk ((sqS hg : w.heap.size ≤ gb357)); clear HB; have HB := n0_; have BK357 := n1_; have GW357 := n2_; have GE357 := n3_; clear n0_ n1_ n2_ n3_; clear hb hbox hg) | ((with_reducible refine zd (f := 52) rfl ?_); refine zn (some 10) rfl rfl Try.func52 (by kernel_rfl) rfl #[.int .i64 a0, .slice A1 l1.length c1] rfl sqM ?_; (with_reducible refine (zE.calls k a0 _ _ l1 true _ ?side1 ?side2 A3.out).mono ?_); (case side1 => exact sqC (Kd.zp HR1.out HB.out)); (case side2 => exact HC1.out); rintro e w' ⟨rfl, ⟨nd, rfl⟩⟩; refine ⟨_, rfl, ?_⟩; (try (rw [qz w10]; generalize hq_ : World.drewN w10 _ = w10; have n0_ : Aside0 (w10.heap[gb357]? = some (.cells #[.int .i64 0, .slice none 0 0] 27 (0, 0))) := ⟨by rw [← hq_]; exact (sqK BK357.out)⟩; have n1_ : Aside0 (Below w.heap.size w w10) := ⟨by rw [← hq_]; exact sqB⟩; clear BK357 HB hq_; have BK357 := n0_; have HB := n1_; clear n0_ n1_; have hczqgb357_0 : w10.cell? ⟨gb357, 0, none⟩ = some (.int .i64 0) := (zb BK357.out 0).trans rfl; have hfzqgb357_0 := za BK357.out 0; have hczqgb357_1 : w10.cell? ⟨gb357, 1, none⟩ = some (.slice none 0 0) := (zb BK357.out 1).trans rfl; have hfzqgb357_1 := za BK357.out 1))) | ((with_reducible refine zd (f := 53) rfl ?_); refine zn (some 16) rfl rfl Try.func53 (by kernel_rfl) rfl #[.int .i64 a0, .slice A1 l1.length c1] rfl sqM ?_; (with_reducible refine (zS.calls k a0 _ _ l1 t359 t360 true _ ?side1 ?side2 A5.out).mono ?_); (case side1 => exact sqC (Kd.zp HR1.out HB.out)); (case side2 => exact HC1.out); rintro e w11 ⟨v361, rfl, ho0, hb⟩; refine ⟨_, rfl, ?_⟩; have n0_ := Aside0.mk (Kd.zD ho0 (zg sqB)); have n1_ := Aside0.mk (ze (g := gb357) (o := .cells #[.int .i64 0, .slice none 0 0] 27 (0, 0)) (sqK BK357.out) hb); have n2_ := Aside0.mk (zc sqB hb); clear BK357; clear HB; have HO362 := n0_; have BK357 := n1_; have HB := n2_; clear n0_ n1_ n2_; (try clear hb); (try clear hb2); (try clear hk); (try clear hi); (try clear ho0)) | ((with_reducible refine zi (N := 6) rfl ?_); refine zl ?hg (N := 6) ?hd (cs := #[.int .i64 0, .slice none 0 0]) (t := 27) ?hr ?_; (case hd => rfl); (case hg => rfl); (case hr => exact sqG); intro gb364 hg w12 hbox hb; have n0_ := Aside0.mk (Kd.zz (sqR HO362.out) hb); have n1_ := Aside0.mk (ze (g := gb357) (o := .cells #[.int .i64 0, .slice none 0 0] 27 (0, 0)) (sqK BK357.out) hb); have n2_ := Aside0.mk (zc sqB hb); have n3_ := Aside0.mk (hbox); have n4_ := Aside0.mk ((sqS hg : w.heap.size ≤ gb364)); have n5_ := Aside0.mk ((sqS hg : w.heap.size ≤ gb364)); have n6_ := Aside0.mk ((by rw [hg]; exact Nat.ne_of_lt (zV (g := gb357) (o := .cells #[.int .i64 0, .slice none 0 0] 27 (0, 0)) (sqK BK357.out)) : gb357 ≠ gb364)); have n7_ := Aside0.mk ((by rw [hg]; exact Nat.ne_of_gt (zV (g := gb357) (o := .cells #[.int .i64 0, .slice none 0 0] 27 (0, 0)) (sqK BK357.out)) : gb364 ≠ gb357)); clear HO362; clear BK357; clear HB; have HO362 := n0_; have BK357 := n1_; have HB := n2_; have BK364 := n3_; have GW364 := n4_; have GE364 := n5_; have NB357_364 := n6_; have NB364_357 := n7_; clear n0_ n1_ n2_ n3_ n4_ n5_ n6_ n7_; clear hb hbox hg; have hnb13 := NB364_357.out; have hnc13 := NB357_364.out; have hcz14_0 : w12.cell? ⟨gb364, 0, none⟩ = some (.int .i64 0) := (zb BK364.out 0).trans rfl; have hcz14_1 : w12.cell? ⟨gb364, 1, none⟩ = some (.slice none 0 0) := (zb BK364.out 1).trans rfl; have hfz14_0 := za BK364.out 0; have hfz14_1 := za BK364.out 1; obtain ⟨Ao15, co15, eo15⟩ := Kd.zR HO362.out; subst eo15) | (go_at_call 55; (try simp only [zj, zo]); (with_reducible refine (z7.calls k t359 _ _ t360 t365 _ ?side1 ?side2 A7.out).mono ?_); (case side1 => refine (Kd.zh (e := 3) (base := w.heap.size) (ok := fun k_ => True) (n := t360.length) (c := co15) ?_).2.2; exact (by refine sqR ?_; exact (Kd.zu (Kd.zC (p := ⟨gb364, 1, none⟩) (Kd.zC (p := ⟨gb364, 0, none⟩) (Kd.zK HO362.out BK364.out (by decide)) (fun _ hk => hk.2) (.int .i64 t359)) (fun _ hk => hk.2) (.slice Ao15 t360.length co15)) (fun _ h_ => h_.1)))); (case side2 => exact (Kd.zh HO362.out).2.1); rintro e w16 ⟨v366, rfl, ho0, hb⟩; have n0_ := Aside0.mk (Kd.zU (by refine sqR ?_; exact (Kd.zu (Kd.zC (p := ⟨gb364, 1, none⟩) (Kd.zC (p := ⟨gb364, 0, none⟩) (Kd.zK HO362.out BK364.out (by decide)) (fun _ hk => hk.2) (.int .i64 t359)) (fun _ hk => hk.2) (.slice Ao15 t360.length co15)) (fun _ h_ => h_.1))) (Kd.qt ho0) hb); have n1_ := Aside0.mk (Kd.zD (Kd.qu ho0 (Kd.jd (by refine sqR ?_; exact (Kd.zu (Kd.zC (p := ⟨gb364, 1, none⟩) (Kd.zC (p := ⟨gb364, 0, none⟩) (Kd.zK HO362.out BK364.out (by decide)) (fun _ hk => hk.2) (.int .i64 t359)) (fun _ hk => hk.2) (.slice Ao15 t360.length co15)) (fun _ h_ => h_.1))))) (zg sqB)); have n2_ := Aside0.mk (ze (g := gb357) (o := .cells #[.int .i64 0, .slice none 0 0] 27 (0, 0)) (by refine sqK ?_; refine qk ?_ NB357_364.out _; refine sqK ?_; refine qk ?_ NB357_364.out _; refine sqK ?_; exact BK357.out) hb); have n3_ := Aside0.mk (ze (g := gb364) (o := .cells #[.int .i64 t359, .slice Ao15 t360.length co15] 27 (0, 0)) (by refine sqK ?_; refine zB (cs := #[.int .i64 t359, .slice none 0 0]) ?_ 1 _ rfl; refine sqK ?_; refine zB (cs := #[.int .i64 0, .slice none 0 0]) ?_ 0 _ rfl; refine sqK ?_; exact BK364.out) hb); have n4_ := Aside0.mk (zc sqB hb); clear HO362; clear BK357; clear BK364; clear HB; have HO362 := n0_; have HO367 := n1_; have BK357 := n2_; have BK364 := n3_; have HB := n4_; clear n0_ n1_ n2_ n3_ n4_; (try clear hb); (try clear hb2); (try clear hk); (try clear hi); (try clear ho0); obtain ⟨Ao17, co17, eo17⟩ := Kd.zR HO367.out; subst eo17) | (go_at_call 54; (try simp only [zj, zo]); (with_reducible refine (zq.calls k _ _ t365 _ _ l1 true _ ?side1 ?side2 ?side3 ?side4 A8.out).mono ?_); (case side1 => exact sqC (Kd.zh HO367.out).2.2); (case side2 => exact (Kd.zh HO367.out).2.1); (case side3 => exact sqC (Kd.zp HR1.out HB.out)); (case side4 => exact HC1.out); rintro e w' ⟨rfl, ⟨nd, rfl⟩⟩; (try (rw [qz w16]; generalize hq_ : World.drewN w16 _ = w16; have n0_ : Aside0 (Kd.R (Kd.int .i64) 3 w16 w.heap.size (fun k_ => some k_ ≠ (.slice Ao17 t365.length co17 : Value).ownBlock) (.slice Ao15 t360.length co15) t360) := ⟨by rw [← hq_]; exact (by refine sqR ?_; exact Kd.zu HO362.out (fun _ hk => hk.2))⟩; have n1_ : Aside0 (Kd.R (Kd.int .i64) 3 w16 w.heap.size (fun k_ => some k_ ≠ (.slice Ao15 t360.length co15 : Value).ownBlock) (.slice Ao17 t365.length co17) t365) := ⟨by rw [← hq_]; exact (by refine sqR ?_; exact Kd.zu HO367.out (fun _ hk => hk.2))⟩; have n2_ : Aside0 (w16.heap[gb357]? = some (.cells #[.int .i64 0, .slice none 0 0] 27 (0, 0))) := ⟨by rw [← hq_]; exact (sqK BK357.out)⟩; have n3_ : Aside0 (w16.heap[gb364]? = some (.cells #[.int .i64 t359, .slice Ao15 t360.length co15] 27 (0, 0))) := ⟨by rw [← hq_]; exact (sqK BK364.out)⟩; have n4_ : Aside0 (Below w.heap.size w w16) := ⟨by rw [← hq_]; exact sqB⟩; clear HO362 HO367 BK357 BK364 HB hq_; have HO362 := n0_; have HO367 := n1_; have BK357 := n2_; have BK364 := n3_; have HB := n4_; clear n0_ n1_ n2_ n3_ n4_; have hczqgb357_0 : w16.cell? ⟨gb357, 0, none⟩ = some (.int .i64 0) := (zb BK357.out 0).trans rfl; have hfzqgb357_0 := za BK357.out 0; have hczqgb357_1 : w16.cell? ⟨gb357, 1, none⟩ = some (.slice none 0 0) := (zb BK357.out 1).trans rfl; have hfzqgb357_1 := za BK357.out 1; have hczqgb364_0 : w16.cell? ⟨gb364, 0, none⟩ = some (.int .i64 t359) := (zb BK364.out 0).trans rfl; have hfzqgb364_0 := za BK364.out 0; have hczqgb364_1 : w16.cell? ⟨gb364, 1, none⟩ = some (.slice Ao15 t360.length co15) := (zb BK364.out 1).trans rfl; have hfzqgb364_1 := za BK364.out 1)); have hcz18_0 : w16.cell? ⟨gb364, 0, none⟩ = some (.int .i64 t359) := (zb BK364.out 0).trans rfl; have hcz18_1 : w16.cell? ⟨gb364, 1, none⟩ = some (.slice Ao15 t360.length co15) := (zb BK364.out 1).trans rfl; have hfz18_0 := za BK364.out 0; have hfz18_1 := za BK364.out 1; have hcz19_0 : w16.cell? ⟨gb357, 0, none⟩ = some (.int .i64 0) := (zb BK357.out 0).trans rfl; have hcz19_1 : w16.cell? ⟨gb357, 1, none⟩ = some (.slice none 0 0) := (zb BK357.out 1).trans rfl; have hfz19_0 := za BK357.out 0; have hfz19_1 := za BK357.out 1))
    refine bodyPost_ret (qG rfl _ _ gb357 27 #[.int .i64 t359, .slice Ao15 t360.length co15] (0, 0) _ rfl (by refine sqK ?_; refine zB (cs := #[.int .i64 t359, .slice none 0 0]) ?_ 1 _ rfl; refine sqK ?_; refine zB (cs := #[.int .i64 0, .slice none 0 0]) ?_ 0 _ rfl; refine sqK ?_; exact BK357.out) Try.underlying27 rfl (by kernel_rfl)) rfl ?_
    exact ⟨_, sqE, by refine sqR ?_; exact Kd.zu (Kd.zC (p := ⟨gb357, 1, none⟩) (Kd.zC (p := ⟨gb357, 0, none⟩) (Kd.zK HO362.out BK357.out (by decide)) (fun _ hk => hk.2) (.int .i64 t359)) (fun _ hk => hk.2) (.slice Ao15 t360.length co15)) (fun _ hk => trivial), sqB⟩
   ·replace c9 := Bool.eq_false_iff.mpr c9
    subst c9
    have H1 : (some (0, ([] : List Int), false)) = some (r1, r2, r3) := by rw [if_neg (show ¬ (false = true) by decide)] at H; exact H
    clear H
    have H := H1
    clear H1
    simp only [Option.some.injEq, Prod.mk.injEq] at H
    obtain ⟨rfl, rfl, rfl⟩ := H
    go_enter Try.func22, Try.ntmps22
    go_wp2_with (first | ((with_reducible refine zi (N := 4) rfl ?_); refine zl ?hg (N := 4) ?hd (cs := #[.int .i64 0, .slice none 0 0]) (t := 27) ?hr ?_; (case hd => rfl); (case hg => rfl); (case hr => exact sqG); intro gb357 hg w20 hbox hb; have n0_ := Aside0.mk (zc sqB hb); have n1_ := Aside0.mk (hbox); have n2_ := Aside0.mk ((sqS hg : w.heap.size ≤ gb357)); have n3_ := Aside0.mk ((sqS hg : w.heap.size ≤ gb357)); clear HB; have HB := n0_; have BK357 := n1_; have GW357 := n2_; have GE357 := n3_; clear n0_ n1_ n2_ n3_; clear hb hbox hg) | ((with_reducible refine zd (f := 52) rfl ?_); refine zn (some 10) rfl rfl Try.func52 (by kernel_rfl) rfl #[.int .i64 a0, .slice A1 l1.length c1] rfl sqM ?_; (with_reducible refine (zE.calls k a0 _ _ l1 true _ ?side1 ?side2 A3.out).mono ?_); (case side1 => exact sqC (Kd.zp HR1.out HB.out)); (case side2 => exact HC1.out); rintro e w' ⟨rfl, ⟨nd, rfl⟩⟩; refine ⟨_, rfl, ?_⟩; (try (rw [qz w20]; generalize hq_ : World.drewN w20 _ = w20; have n0_ : Aside0 (w20.heap[gb357]? = some (.cells #[.int .i64 0, .slice none 0 0] 27 (0, 0))) := ⟨by rw [← hq_]; exact (sqK BK357.out)⟩; have n1_ : Aside0 (Below w.heap.size w w20) := ⟨by rw [← hq_]; exact sqB⟩; clear BK357 HB hq_; have BK357 := n0_; have HB := n1_; clear n0_ n1_; have hczqgb357_0 : w20.cell? ⟨gb357, 0, none⟩ = some (.int .i64 0) := (zb BK357.out 0).trans rfl; have hfzqgb357_0 := za BK357.out 0; have hczqgb357_1 : w20.cell? ⟨gb357, 1, none⟩ = some (.slice none 0 0) := (zb BK357.out 1).trans rfl; have hfzqgb357_1 := za BK357.out 1))) | ((with_reducible refine zd (f := 53) rfl ?_); refine zn (some 16) rfl rfl Try.func53 (by kernel_rfl) rfl #[.int .i64 a0, .slice A1 l1.length c1] rfl sqM ?_; (with_reducible refine (zS.calls k a0 _ _ l1 t359 t360 true _ ?side1 ?side2 A5.out).mono ?_); (case side1 => exact sqC (Kd.zp HR1.out HB.out)); (case side2 => exact HC1.out); rintro e w21 ⟨v361, rfl, ho0, hb⟩; refine ⟨_, rfl, ?_⟩; have n0_ := Aside0.mk (Kd.zD ho0 (zg sqB)); have n1_ := Aside0.mk (ze (g := gb357) (o := .cells #[.int .i64 0, .slice none 0 0] 27 (0, 0)) (sqK BK357.out) hb); have n2_ := Aside0.mk (zc sqB hb); clear BK357; clear HB; have HO362 := n0_; have BK357 := n1_; have HB := n2_; clear n0_ n1_ n2_; (try clear hb); (try clear hb2); (try clear hk); (try clear hi); (try clear ho0)) | ((with_reducible refine zi (N := 6) rfl ?_); refine zl ?hg (N := 6) ?hd (cs := #[.int .i64 0, .slice none 0 0]) (t := 27) ?hr ?_; (case hd => rfl); (case hg => rfl); (case hr => exact sqG); intro gb364 hg w22 hbox hb; have n0_ := Aside0.mk (Kd.zz (sqR HO362.out) hb); have n1_ := Aside0.mk (ze (g := gb357) (o := .cells #[.int .i64 0, .slice none 0 0] 27 (0, 0)) (sqK BK357.out) hb); have n2_ := Aside0.mk (zc sqB hb); have n3_ := Aside0.mk (hbox); have n4_ := Aside0.mk ((sqS hg : w.heap.size ≤ gb364)); have n5_ := Aside0.mk ((sqS hg : w.heap.size ≤ gb364)); have n6_ := Aside0.mk ((by rw [hg]; exact Nat.ne_of_lt (zV (g := gb357) (o := .cells #[.int .i64 0, .slice none 0 0] 27 (0, 0)) (sqK BK357.out)) : gb357 ≠ gb364)); have n7_ := Aside0.mk ((by rw [hg]; exact Nat.ne_of_gt (zV (g := gb357) (o := .cells #[.int .i64 0, .slice none 0 0] 27 (0, 0)) (sqK BK357.out)) : gb364 ≠ gb357)); clear HO362; clear BK357; clear HB; have HO362 := n0_; have BK357 := n1_; have HB := n2_; have BK364 := n3_; have GW364 := n4_; have GE364 := n5_; have NB357_364 := n6_; have NB364_357 := n7_; clear n0_ n1_ n2_ n3_ n4_ n5_ n6_ n7_; clear hb hbox hg; have hnb23 := NB364_357.out; have hnc23 := NB357_364.out; have hcz24_0 : w22.cell? ⟨gb364, 0, none⟩ = some (.int .i64 0) := (zb BK364.out 0).trans rfl; have hcz24_1 : w22.cell? ⟨gb364, 1, none⟩ = some (.slice none 0 0) := (zb BK364.out 1).trans rfl; have hfz24_0 := za BK364.out 0; have hfz24_1 := za BK364.out 1; obtain ⟨Ao25, co25, eo25⟩ := Kd.zR HO362.out; subst eo25) | (go_at_call 55; (try simp only [zj, zo]); (with_reducible refine (z7.calls k t359 _ _ t360 t365 _ ?side1 ?side2 A7.out).mono ?_); (case side1 => refine (Kd.zh (e := 3) (base := w.heap.size) (ok := fun k_ => True) (n := t360.length) (c := co25) ?_).2.2; exact (by refine sqR ?_; exact (Kd.zu (Kd.zC (p := ⟨gb364, 1, none⟩) (Kd.zC (p := ⟨gb364, 0, none⟩) (Kd.zK HO362.out BK364.out (by decide)) (fun _ hk => hk.2) (.int .i64 t359)) (fun _ hk => hk.2) (.slice Ao25 t360.length co25)) (fun _ h_ => h_.1)))); (case side2 => exact (Kd.zh HO362.out).2.1); rintro e w26 ⟨v366, rfl, ho0, hb⟩; have n0_ := Aside0.mk (Kd.zU (by refine sqR ?_; exact (Kd.zu (Kd.zC (p := ⟨gb364, 1, none⟩) (Kd.zC (p := ⟨gb364, 0, none⟩) (Kd.zK HO362.out BK364.out (by decide)) (fun _ hk => hk.2) (.int .i64 t359)) (fun _ hk => hk.2) (.slice Ao25 t360.length co25)) (fun _ h_ => h_.1))) (Kd.qt ho0) hb); have n1_ := Aside0.mk (Kd.zD (Kd.qu ho0 (Kd.jd (by refine sqR ?_; exact (Kd.zu (Kd.zC (p := ⟨gb364, 1, none⟩) (Kd.zC (p := ⟨gb364, 0, none⟩) (Kd.zK HO362.out BK364.out (by decide)) (fun _ hk => hk.2) (.int .i64 t359)) (fun _ hk => hk.2) (.slice Ao25 t360.length co25)) (fun _ h_ => h_.1))))) (zg sqB)); have n2_ := Aside0.mk (ze (g := gb357) (o := .cells #[.int .i64 0, .slice none 0 0] 27 (0, 0)) (by refine sqK ?_; refine qk ?_ NB357_364.out _; refine sqK ?_; refine qk ?_ NB357_364.out _; refine sqK ?_; exact BK357.out) hb); have n3_ := Aside0.mk (ze (g := gb364) (o := .cells #[.int .i64 t359, .slice Ao25 t360.length co25] 27 (0, 0)) (by refine sqK ?_; refine zB (cs := #[.int .i64 t359, .slice none 0 0]) ?_ 1 _ rfl; refine sqK ?_; refine zB (cs := #[.int .i64 0, .slice none 0 0]) ?_ 0 _ rfl; refine sqK ?_; exact BK364.out) hb); have n4_ := Aside0.mk (zc sqB hb); clear HO362; clear BK357; clear BK364; clear HB; have HO362 := n0_; have HO367 := n1_; have BK357 := n2_; have BK364 := n3_; have HB := n4_; clear n0_ n1_ n2_ n3_ n4_; (try clear hb); (try clear hb2); (try clear hk); (try clear hi); (try clear ho0); obtain ⟨Ao27, co27, eo27⟩ := Kd.zR HO367.out; subst eo27) | (go_at_call 54; (try simp only [zj, zo]); (with_reducible refine (zq.calls k _ _ t365 _ _ l1 false _ ?side1 ?side2 ?side3 ?side4 A8.out).mono ?_); (case side1 => exact sqC (Kd.zh HO367.out).2.2); (case side2 => exact (Kd.zh HO367.out).2.1); (case side3 => exact sqC (Kd.zp HR1.out HB.out)); (case side4 => exact HC1.out); rintro e w' ⟨rfl, ⟨nd, rfl⟩⟩; (try (rw [qz w26]; generalize hq_ : World.drewN w26 _ = w26; have n0_ : Aside0 (Kd.R (Kd.int .i64) 3 w26 w.heap.size (fun k_ => some k_ ≠ (.slice Ao27 t365.length co27 : Value).ownBlock) (.slice Ao25 t360.length co25) t360) := ⟨by rw [← hq_]; exact (by refine sqR ?_; exact Kd.zu HO362.out (fun _ hk => hk.2))⟩; have n1_ : Aside0 (Kd.R (Kd.int .i64) 3 w26 w.heap.size (fun k_ => some k_ ≠ (.slice Ao25 t360.length co25 : Value).ownBlock) (.slice Ao27 t365.length co27) t365) := ⟨by rw [← hq_]; exact (by refine sqR ?_; exact Kd.zu HO367.out (fun _ hk => hk.2))⟩; have n2_ : Aside0 (w26.heap[gb357]? = some (.cells #[.int .i64 0, .slice none 0 0] 27 (0, 0))) := ⟨by rw [← hq_]; exact (sqK BK357.out)⟩; have n3_ : Aside0 (w26.heap[gb364]? = some (.cells #[.int .i64 t359, .slice Ao25 t360.length co25] 27 (0, 0))) := ⟨by rw [← hq_]; exact (sqK BK364.out)⟩; have n4_ : Aside0 (Below w.heap.size w w26) := ⟨by rw [← hq_]; exact sqB⟩; clear HO362 HO367 BK357 BK364 HB hq_; have HO362 := n0_; have HO367 := n1_; have BK357 := n2_; have BK364 := n3_; have HB := n4_; clear n0_ n1_ n2_ n3_ n4_; have hczqgb357_0 : w26.cell? ⟨gb357, 0, none⟩ = some (.int .i64 0) := (zb BK357.out 0).trans rfl; have hfzqgb357_0 := za BK357.out 0; have hczqgb357_1 : w26.cell? ⟨gb357, 1, none⟩ = some (.slice none 0 0) := (zb BK357.out 1).trans rfl; have hfzqgb357_1 := za BK357.out 1; have hczqgb364_0 : w26.cell? ⟨gb364, 0, none⟩ = some (.int .i64 t359) := (zb BK364.out 0).trans rfl; have hfzqgb364_0 := za BK364.out 0; have hczqgb364_1 : w26.cell? ⟨gb364, 1, none⟩ = some (.slice Ao25 t360.length co25) := (zb BK364.out 1).trans rfl; have hfzqgb364_1 := za BK364.out 1)); have hcz28_0 : w26.cell? ⟨gb357, 0, none⟩ = some (.int .i64 0) := (zb BK357.out 0).trans rfl; have hcz28_1 : w26.cell? ⟨gb357, 1, none⟩ = some (.slice none 0 0) := (zb BK357.out 1).trans rfl; have hfz28_0 := za BK357.out 0; have hfz28_1 := za BK357.out 1))
    refine bodyPost_ret (qG rfl _ _ gb357 27 #[.int .i64 0, .slice none 0 0] (0, 0) _ rfl (by refine sqK ?_; refine zB (cs := #[.int .i64 0, .slice none 0 0]) ?_ 1 _ rfl; refine sqK ?_; refine zB (cs := #[.int .i64 0, .slice none 0 0]) ?_ 0 _ rfl; refine sqK ?_; exact BK357.out) Try.underlying27 rfl (by kernel_rfl)) rfl ?_
    exact ⟨_, sqE, sqN, sqB⟩
  ·replace c6 := Bool.eq_false_iff.mpr c6
   subst c6
   have H1 : (some (0, ([] : List Int), false)) = some (r1, r2, r3) := by rw [if_neg (show ¬ (false = true) by decide)] at H; exact H
   clear H
   have H := H1
   clear H1
   simp only [Option.some.injEq, Prod.mk.injEq] at H
   obtain ⟨rfl, rfl, rfl⟩ := H
   go_enter Try.func22, Try.ntmps22
   go_wp2_with (first | ((with_reducible refine zi (N := 4) rfl ?_); refine zl ?hg (N := 4) ?hd (cs := #[.int .i64 0, .slice none 0 0]) (t := 27) ?hr ?_; (case hd => rfl); (case hg => rfl); (case hr => exact sqG); intro gb357 hg w29 hbox hb; have n0_ := Aside0.mk (zc sqB hb); have n1_ := Aside0.mk (hbox); have n2_ := Aside0.mk ((sqS hg : w.heap.size ≤ gb357)); have n3_ := Aside0.mk ((sqS hg : w.heap.size ≤ gb357)); clear HB; have HB := n0_; have BK357 := n1_; have GW357 := n2_; have GE357 := n3_; clear n0_ n1_ n2_ n3_; clear hb hbox hg) | ((with_reducible refine zd (f := 52) rfl ?_); refine zn (some 10) rfl rfl Try.func52 (by kernel_rfl) rfl #[.int .i64 a0, .slice A1 l1.length c1] rfl sqM ?_; (with_reducible refine (zE.calls k a0 _ _ l1 true _ ?side1 ?side2 A3.out).mono ?_); (case side1 => exact sqC (Kd.zp HR1.out HB.out)); (case side2 => exact HC1.out); rintro e w' ⟨rfl, ⟨nd, rfl⟩⟩; refine ⟨_, rfl, ?_⟩; (try (rw [qz w29]; generalize hq_ : World.drewN w29 _ = w29; have n0_ : Aside0 (w29.heap[gb357]? = some (.cells #[.int .i64 0, .slice none 0 0] 27 (0, 0))) := ⟨by rw [← hq_]; exact (sqK BK357.out)⟩; have n1_ : Aside0 (Below w.heap.size w w29) := ⟨by rw [← hq_]; exact sqB⟩; clear BK357 HB hq_; have BK357 := n0_; have HB := n1_; clear n0_ n1_; have hczqgb357_0 : w29.cell? ⟨gb357, 0, none⟩ = some (.int .i64 0) := (zb BK357.out 0).trans rfl; have hfzqgb357_0 := za BK357.out 0; have hczqgb357_1 : w29.cell? ⟨gb357, 1, none⟩ = some (.slice none 0 0) := (zb BK357.out 1).trans rfl; have hfzqgb357_1 := za BK357.out 1))) | ((with_reducible refine zd (f := 53) rfl ?_); refine zn (some 16) rfl rfl Try.func53 (by kernel_rfl) rfl #[.int .i64 a0, .slice A1 l1.length c1] rfl sqM ?_; (with_reducible refine (zS.calls k a0 _ _ l1 t359 t360 false _ ?side1 ?side2 A5.out).mono ?_); (case side1 => exact sqC (Kd.zp HR1.out HB.out)); (case side2 => exact HC1.out); rintro e w30 ⟨v361, rfl, ho0, hb⟩; refine ⟨_, rfl, ?_⟩; have n0_ := Aside0.mk (Kd.zD ho0 (zg sqB)); have n1_ := Aside0.mk (ze (g := gb357) (o := .cells #[.int .i64 0, .slice none 0 0] 27 (0, 0)) (sqK BK357.out) hb); have n2_ := Aside0.mk (zc sqB hb); clear BK357; clear HB; have HO362 := n0_; have BK357 := n1_; have HB := n2_; clear n0_ n1_ n2_; (try clear hb); (try clear hb2); (try clear hk); (try clear hi); (try clear ho0)) | ((with_reducible refine zi (N := 6) rfl ?_); refine zl ?hg (N := 6) ?hd (cs := #[.int .i64 0, .slice none 0 0]) (t := 27) ?hr ?_; (case hd => rfl); (case hg => rfl); (case hr => exact sqG); intro gb364 hg w31 hbox hb; have n0_ := Aside0.mk (Kd.zz (sqR HO362.out) hb); have n1_ := Aside0.mk (ze (g := gb357) (o := .cells #[.int .i64 0, .slice none 0 0] 27 (0, 0)) (sqK BK357.out) hb); have n2_ := Aside0.mk (zc sqB hb); have n3_ := Aside0.mk (hbox); have n4_ := Aside0.mk ((sqS hg : w.heap.size ≤ gb364)); have n5_ := Aside0.mk ((sqS hg : w.heap.size ≤ gb364)); have n6_ := Aside0.mk ((by rw [hg]; exact Nat.ne_of_lt (zV (g := gb357) (o := .cells #[.int .i64 0, .slice none 0 0] 27 (0, 0)) (sqK BK357.out)) : gb357 ≠ gb364)); have n7_ := Aside0.mk ((by rw [hg]; exact Nat.ne_of_gt (zV (g := gb357) (o := .cells #[.int .i64 0, .slice none 0 0] 27 (0, 0)) (sqK BK357.out)) : gb364 ≠ gb357)); clear HO362; clear BK357; clear HB; have HO362 := n0_; have BK357 := n1_; have HB := n2_; have BK364 := n3_; have GW364 := n4_; have GE364 := n5_; have NB357_364 := n6_; have NB364_357 := n7_; clear n0_ n1_ n2_ n3_ n4_ n5_ n6_ n7_; clear hb hbox hg; have hnb32 := NB364_357.out; have hnc32 := NB357_364.out; have hcz33_0 : w31.cell? ⟨gb364, 0, none⟩ = some (.int .i64 0) := (zb BK364.out 0).trans rfl; have hcz33_1 : w31.cell? ⟨gb364, 1, none⟩ = some (.slice none 0 0) := (zb BK364.out 1).trans rfl; have hfz33_0 := za BK364.out 0; have hfz33_1 := za BK364.out 1; obtain ⟨Ao34, co34, eo34⟩ := Kd.zR HO362.out; subst eo34; have hcz35_0 : w31.cell? ⟨gb357, 0, none⟩ = some (.int .i64 0) := (zb BK357.out 0).trans rfl; have hcz35_1 : w31.cell? ⟨gb357, 1, none⟩ = some (.slice none 0 0) := (zb BK357.out 1).trans rfl; have hfz35_0 := za BK357.out 0; have hfz35_1 := za BK357.out 1))
   refine bodyPost_ret (qG rfl _ _ gb357 27 #[.int .i64 0, .slice none 0 0] (0, 0) _ rfl (by refine sqK ?_; refine zB (cs := #[.int .i64 0, .slice none 0 0]) ?_ 1 _ rfl; refine sqK ?_; refine zB (cs := #[.int .i64 0, .slice none 0 0]) ?_ 0 _ rfl; refine sqK ?_; refine qk ?_ NB357_364.out _; refine sqK ?_; refine qk ?_ NB357_364.out _; refine sqK ?_; exact BK357.out) Try.underlying27 rfl (by kernel_rfl)) rfl ?_
   exact ⟨_, sqE, sqN, sqB⟩
 ·replace c4 := Bool.eq_false_iff.mpr c4
  subst c4
  have H1 : (some (0, ([] : List Int), false)) = some (r1, r2, r3) := by rw [if_neg (show ¬ (false = true) by decide)] at H; exact H
  clear H
  have H := H1
  clear H1
  simp only [Option.some.injEq, Prod.mk.injEq] at H
  obtain ⟨rfl, rfl, rfl⟩ := H
  go_enter Try.func22, Try.ntmps22
  go_wp2_with (first | ((with_reducible refine zi (N := 4) rfl ?_); refine zl ?hg (N := 4) ?hd (cs := #[.int .i64 0, .slice none 0 0]) (t := 27) ?hr ?_; (case hd => rfl); (case hg => rfl); (case hr => exact sqG); intro gb357 hg w36 hbox hb; have n0_ := Aside0.mk (zc sqB hb); have n1_ := Aside0.mk (hbox); have n2_ := Aside0.mk ((sqS hg : w.heap.size ≤ gb357)); have n3_ := Aside0.mk ((sqS hg : w.heap.size ≤ gb357)); clear HB; have HB := n0_; have BK357 := n1_; have GW357 := n2_; have GE357 := n3_; clear n0_ n1_ n2_ n3_; clear hb hbox hg) | ((with_reducible refine zd (f := 52) rfl ?_); refine zn (some 10) rfl rfl Try.func52 (by kernel_rfl) rfl #[.int .i64 a0, .slice A1 l1.length c1] rfl sqM ?_; (with_reducible refine (zE.calls k a0 _ _ l1 false _ ?side1 ?side2 A3.out).mono ?_); (case side1 => exact sqC (Kd.zp HR1.out HB.out)); (case side2 => exact HC1.out); rintro e w' ⟨rfl, ⟨nd, rfl⟩⟩; refine ⟨_, rfl, ?_⟩; (try (rw [qz w36]; generalize hq_ : World.drewN w36 _ = w36; have n0_ : Aside0 (w36.heap[gb357]? = some (.cells #[.int .i64 0, .slice none 0 0] 27 (0, 0))) := ⟨by rw [← hq_]; exact (sqK BK357.out)⟩; have n1_ : Aside0 (Below w.heap.size w w36) := ⟨by rw [← hq_]; exact sqB⟩; clear BK357 HB hq_; have BK357 := n0_; have HB := n1_; clear n0_ n1_; have hczqgb357_0 : w36.cell? ⟨gb357, 0, none⟩ = some (.int .i64 0) := (zb BK357.out 0).trans rfl; have hfzqgb357_0 := za BK357.out 0; have hczqgb357_1 : w36.cell? ⟨gb357, 1, none⟩ = some (.slice none 0 0) := (zb BK357.out 1).trans rfl; have hfzqgb357_1 := za BK357.out 1)); have hcz37_0 : w36.cell? ⟨gb357, 0, none⟩ = some (.int .i64 0) := (zb BK357.out 0).trans rfl; have hcz37_1 : w36.cell? ⟨gb357, 1, none⟩ = some (.slice none 0 0) := (zb BK357.out 1).trans rfl; have hfz37_0 := za BK357.out 0; have hfz37_1 := za BK357.out 1))
  refine bodyPost_ret (qG rfl _ _ gb357 27 #[.int .i64 0, .slice none 0 0] (0, 0) _ rfl (by refine sqK ?_; refine zB (cs := #[.int .i64 0, .slice none 0 0]) ?_ 1 _ rfl; refine sqK ?_; refine zB (cs := #[.int .i64 0, .slice none 0 0]) ?_ 0 _ rfl; refine sqK ?_; exact BK357.out) Try.underlying27 rfl (by kernel_rfl)) rfl ?_
  exact ⟨_, sqE, sqN, sqB⟩

end Go.Proofs.Yteggmbhcnhbamaa.F
end
