/- Several texts of this session in one: GvFromCircuits, Fx12, Fx13. Conditions: as each theorem says. -/
import Derived.Test.YteggmbhcnhbamaaGreatZFromFlats0
import Derived.Test.YteggmbhcnhbamaaGreatZFromFlats2
import Derived.Test.YteggmbhcnhbamaaGreatZFromFlats4
import Derived.Shelf.Abstract
import Derived.Test.YteggmbhcnhbamaaGreatZFromFlats3
set_option maxHeartbeats 8000000
set_option maxRecDepth 100000
section
namespace Go.Proofs.YteggmbhcnhbamaaGreat.F
open Go.RowKit Go.Proofs.YteggmbhcnhbamaaGreatW.PrintWords Go.Proofs.YteggmbhcnhbamaaGreatW.PrintLast Go.Proofs.YteggmbhcnhbamaaGreatW.PrintMore
attribute [local go_sem] jG jJ jZ jV jr jq jF jI   -- for this text's walks alone
set_option linter.unusedVariables false
set_option linter.unusedSimpArgs false

def zW.f (k : Nat) (a0 : Int) (l1 : List Int) : Option (Int × List Int × Bool) := (zJ.f k a0 l1).bind fun t334 => (if t334 = true then ((zM.f k a0 l1).bind fun t335 => ((ql.f k a0 t335).bind fun bt338 => (if bt338.2.2 = true then ((qm.f k bt338.1 bt338.2.1).bind fun t344 => ((zr.f k t344 l1).bind fun t347 => (if t347 = true then (some (bt338.1, bt338.2.1, true)) else (some (0, ([] : List Int), false))))) else (some (0, ([] : List Int), false))))) else (some (0, ([] : List Int), false)))
def zW.T4 : Bool × List (List Nat × List Nat) := (true, [([], []), ([0], [0]), ([1], [1]), ([2], [2]), ([3, 2, 2], [2, 3]), ([2], [2]), ([4, 5, 4, 2], [2, 4, 5]), ([6, 2], [2, 6]), ([2, 7], [2, 7])])
def zW.B4 : List Nat := [0, 1, 3, 7, 15, 7, 63, 127, 255]
theorem zW.zbj : vO .any (opsOf Tryz.f37 4) = zW.T4 := by kernel_rfl
theorem zW.zak : vt zW.T4.2 zW.B4 = true := by kernel_rfl
theorem zW.calls (k : Nat) (a0 : Int) (A1 : Option Addr) (c1 : Nat) (l1 : List Int) (r1 : Int) (r2 : List Int) (r3 : Bool) (w : World) (hr1 : Kd.C (Kd.int .i64) w A1 l1.length l1) (hc1 : l1.length ≤ c1) (h : zW.f k a0 l1 = some (r1, r2, r3)) :
    Calls Tryz.prog 37 #[.int .i64 a0, .slice A1 l1.length c1] w fun e w' => ∃ v1_ : Value, e = .returned (.tuple #[.agg #[.int .i64 r1, v1_], .bool r3]) ∧ Kd.R (Kd.int .i64) 3 w' w.heap.size (fun _ => True) v1_ r2 ∧ Below w.heap.size w w' := by
  have hu27 := Tryz.underlying24
  have HR1 := Aside0.mk hr1
  have HC1 := Aside0.mk hc1
  clear hr1 hc1
  have HB := Aside0.mk (Below.refl w.heap.size w)
  have H : ((zJ.f k a0 l1).bind fun t334 => (if t334 = true then ((zM.f k a0 l1).bind fun t335 => ((ql.f k a0 t335).bind fun bt338 => (if bt338.2.2 = true then ((qm.f k bt338.1 bt338.2.1).bind fun t344 => ((zr.f k t344 l1).bind fun t347 => (if t347 = true then (some (bt338.1, bt338.2.1, true)) else (some (0, ([] : List Int), false))))) else (some (0, ([] : List Int), false))))) else (some (0, ([] : List Int), false)))) = some (r1, r2, r3) := h
  clear h
  replace H := Option.bind_eq_some_iff.mp H
  obtain ⟨t334, A30, H⟩ := H
  replace H : (if t334 = true then ((zM.f k a0 l1).bind fun t335 => ((ql.f k a0 t335).bind fun bt338 => (if bt338.2.2 = true then ((qm.f k bt338.1 bt338.2.1).bind fun t344 => ((zr.f k t344 l1).bind fun t347 => (if t347 = true then (some (bt338.1, bt338.2.1, true)) else (some (0, ([] : List Int), false))))) else (some (0, ([] : List Int), false))))) else (some (0, ([] : List Int), false))) = some (r1, r2, r3) := H
  have A3 := Aside0.mk A30
  clear A30
  by_cases c4 : t334 = true
  · subst c4
    have H1 : ((zM.f k a0 l1).bind fun t335 => ((ql.f k a0 t335).bind fun bt338 => (if bt338.2.2 = true then ((qm.f k bt338.1 bt338.2.1).bind fun t344 => ((zr.f k t344 l1).bind fun t347 => (if t347 = true then (some (bt338.1, bt338.2.1, true)) else (some (0, ([] : List Int), false))))) else (some (0, ([] : List Int), false))))) = some (r1, r2, r3) := by rw [if_pos rfl] at H; exact H
    clear H
    have H := H1
    clear H1
    replace H := Option.bind_eq_some_iff.mp H
    obtain ⟨t335, A50, H⟩ := H
    replace H : ((ql.f k a0 t335).bind fun bt338 => (if bt338.2.2 = true then ((qm.f k bt338.1 bt338.2.1).bind fun t344 => ((zr.f k t344 l1).bind fun t347 => (if t347 = true then (some (bt338.1, bt338.2.1, true)) else (some (0, ([] : List Int), false))))) else (some (0, ([] : List Int), false)))) = some (r1, r2, r3) := H
    have A5 := Aside0.mk A50
    clear A50
    replace H := Option.bind_eq_some_iff.mp H
    obtain ⟨⟨t338, t339, t342⟩, A60, H⟩ := H
    replace H : (if t342 = true then ((qm.f k t338 t339).bind fun t344 => ((zr.f k t344 l1).bind fun t347 => (if t347 = true then (some (t338, t339, true)) else (some (0, ([] : List Int), false))))) else (some (0, ([] : List Int), false))) = some (r1, r2, r3) := H
    have A6 := Aside0.mk A60
    clear A60
    by_cases c7 : t342 = true
    · subst c7
      have H1 : ((qm.f k t338 t339).bind fun t344 => ((zr.f k t344 l1).bind fun t347 => (if t347 = true then (some (t338, t339, true)) else (some (0, ([] : List Int), false))))) = some (r1, r2, r3) := by rw [if_pos rfl] at H; exact H
      clear H
      have H := H1
      clear H1
      replace H := Option.bind_eq_some_iff.mp H
      obtain ⟨t344, A80, H⟩ := H
      replace H : ((zr.f k t344 l1).bind fun t347 => (if t347 = true then (some (t338, t339, true)) else (some (0, ([] : List Int), false)))) = some (r1, r2, r3) := H
      have A8 := Aside0.mk A80
      clear A80
      replace H := Option.bind_eq_some_iff.mp H
      obtain ⟨t347, A90, H⟩ := H
      replace H : (if t347 = true then (some (t338, t339, true)) else (some (0, ([] : List Int), false))) = some (r1, r2, r3) := H
      have A9 := Aside0.mk A90
      clear A90
      by_cases c10 : t347 = true
      · subst c10
        have H1 : (some (t338, t339, true)) = some (r1, r2, r3) := by rw [if_pos rfl] at H; exact H
        clear H
        have H := H1
        clear H1
        simp only [Option.some.injEq, Prod.mk.injEq] at H
        obtain ⟨rfl, rfl, rfl⟩ := H
        go_enter Tryz.func37, Tryz.ntmps37
        go_wp2_with (first
          | ((with_reducible refine zm (N := 3) rfl ?_); refine zq ?hg (N := 3) ?hd (cs := #[.slice A1 l1.length c1]) (t := 22) ?hr ?_; (case hd => rfl); (case hg => rfl); (case hr => exact sqG); intro gl hg wl hbox hb; have HBl := Aside0.mk hb; have BKl := Aside0.mk hbox; have nr_ := Aside0.mk (Kd.zt HR1.out hb); clear HR1 HB; have HR1 := nr_; clear nr_; have HB := Aside0.mk (Below.refl wl.heap.size wl); have hcl : wl.cell? ⟨gl, 0, none⟩ = some (.slice A1 l1.length c1) := (za BKl.out 0).trans rfl; clear hb hbox hg)
          | ((with_reducible refine zm (N := 4) rfl ?_); refine zq ?hg (N := 4) ?hd (cs := #[.int .i64 0, .slice none 0 0]) (t := 24) ?hr ?_; (case hd => rfl); (case hg => rfl); (case hr => exact sqG); intro gb333 hg w11 hbox hb; have n0_ := Aside0.mk (zc sqB hb); have n1_ := Aside0.mk (hbox); have n2_ := Aside0.mk ((sqS hg : wl.heap.size ≤ gb333)); have n3_ := Aside0.mk ((sqS hg : wl.heap.size ≤ gb333)); clear HB; have HB := n0_; have BK333 := n1_; have GW333 := n2_; have GE333 := n3_; clear n0_ n1_ n2_ n3_; clear hb hbox hg; (try clear hcl); have hcl : World.cell? _ ⟨gl, 0, none⟩ = some (.slice A1 l1.length c1) := (za (zd BKl.out HB.out) 0).trans rfl)
          | ((with_reducible refine ze (f := 19) rfl ?_); refine zv (some 10) rfl rfl Tryz.func19 (by kernel_rfl) rfl #[.int .i64 a0, .slice A1 l1.length c1] rfl sqM ?_; (with_reducible refine (zJ.calls k a0 _ _ l1 true _ ?side1 ?side2 A3.out).mono ?_); (case side1 => exact sqC (Kd.zt HR1.out HB.out)); (case side2 => exact HC1.out); rintro e w' ⟨rfl, ⟨nd, rfl⟩⟩; refine ⟨_, rfl, ?_⟩; (try (rw [qO w11]; generalize hq_ : World.drewN w11 _ = w11; have n0_ : Aside0 (w11.heap[gb333]? = some (.cells #[.int .i64 0, .slice none 0 0] 24 (0, 0))) := ⟨by rw [← hq_]; exact (sqK BK333.out)⟩; have n1_ : Aside0 (Below wl.heap.size wl w11) := ⟨by rw [← hq_]; exact sqB⟩; clear BK333 HB hq_; have BK333 := n0_; have HB := n1_; clear n0_ n1_; have hczqgb333_0 : w11.cell? ⟨gb333, 0, none⟩ = some (.int .i64 0) := (za BK333.out 0).trans rfl; have hfzqgb333_0 := zb BK333.out 0; have hczqgb333_1 : w11.cell? ⟨gb333, 1, none⟩ = some (.slice none 0 0) := (za BK333.out 1).trans rfl; have hfzqgb333_1 := zb BK333.out 1)); (try clear hcl); have hcl : World.cell? _ ⟨gl, 0, none⟩ = some (.slice A1 l1.length c1) := (za (zd BKl.out HB.out) 0).trans rfl)
          | ((with_reducible refine ze (f := 52) rfl ?_); refine zv (some 18) rfl rfl Tryz.func52 (by kernel_rfl) rfl #[.int .i64 a0, .slice Ao13 t335.length co13] rfl sqM ?_; (with_reducible refine (ql.calls k a0 _ _ t335 t338 t339 true _ ?side1 ?side2 A6.out).mono ?_); (case side1 => exact sqC (Kd.zg HO337.out).2.2); (case side2 => exact (Kd.zg HO337.out).2.1); rintro e w14 ⟨v340, rfl, ho0, hb⟩; refine ⟨_, rfl, ?_⟩; have n0_ := Aside0.mk (Kd.zw (sqR HO337.out) (Kd.zQ ho0) hb); have n1_ := Aside0.mk (Kd.zD (Kd.zP ho0 (Kd.qt (sqR HO337.out))) (zh sqB)); have n2_ := Aside0.mk (zd (g := gb333) (o := .cells #[.int .i64 0, .slice none 0 0] 24 (0, 0)) (sqK BK333.out) hb); have n3_ := Aside0.mk (zc sqB hb); clear HO337; clear BK333; clear HB; have HO337 := n0_; have HO341 := n1_; have BK333 := n2_; have HB := n3_; clear n0_ n1_ n2_ n3_; (try clear hb); (try clear hb2); (try clear hk); (try clear hi); (try clear ho0); (try clear hcl); have hcl : World.cell? _ ⟨gl, 0, none⟩ = some (.slice A1 l1.length c1) := (za (zd BKl.out HB.out) 0).trans rfl)
          | ((with_reducible refine zm (N := 6) rfl ?_); refine zq ?hg (N := 6) ?hd (cs := #[.int .i64 0, .slice none 0 0]) (t := 24) ?hr ?_; (case hd => rfl); (case hg => rfl); (case hr => exact sqG); intro gb343 hg w15 hbox hb; have n0_ := Aside0.mk (Kd.zx (sqR HO337.out) hb); have n1_ := Aside0.mk (Kd.zx (sqR HO341.out) hb); have n2_ := Aside0.mk (zd (g := gb333) (o := .cells #[.int .i64 0, .slice none 0 0] 24 (0, 0)) (sqK BK333.out) hb); have n3_ := Aside0.mk (zc sqB hb); have n4_ := Aside0.mk (hbox); have n5_ := Aside0.mk ((sqS hg : wl.heap.size ≤ gb343)); have n6_ := Aside0.mk ((sqS hg : wl.heap.size ≤ gb343)); have n7_ := Aside0.mk ((by rw [hg]; exact Nat.ne_of_lt (zU (g := gb333) (o := .cells #[.int .i64 0, .slice none 0 0] 24 (0, 0)) (sqK BK333.out)) : gb333 ≠ gb343)); have n8_ := Aside0.mk ((by rw [hg]; exact Nat.ne_of_gt (zU (g := gb333) (o := .cells #[.int .i64 0, .slice none 0 0] 24 (0, 0)) (sqK BK333.out)) : gb343 ≠ gb333)); clear HO337; clear HO341; clear BK333; clear HB; have HO337 := n0_; have HO341 := n1_; have BK333 := n2_; have HB := n3_; have BK343 := n4_; have GW343 := n5_; have GE343 := n6_; have NB333_343 := n7_; have NB343_333 := n8_; clear n0_ n1_ n2_ n3_ n4_ n5_ n6_ n7_ n8_; clear hb hbox hg; have hnb16 := NB343_333.out; have hnc16 := NB333_343.out; have hcz17_0 : w15.cell? ⟨gb343, 0, none⟩ = some (.int .i64 0) := (za BK343.out 0).trans rfl; have hcz17_1 : w15.cell? ⟨gb343, 1, none⟩ = some (.slice none 0 0) := (za BK343.out 1).trans rfl; have hfz17_0 := zb BK343.out 0; have hfz17_1 := zb BK343.out 1; obtain ⟨Ao18, co18, eo18⟩ := Kd.zK HO341.out; subst eo18; (try clear hcl); have hcl : World.cell? _ ⟨gl, 0, none⟩ = some (.slice A1 l1.length c1) := (za (zd BKl.out HB.out) 0).trans rfl))
        refine (vM (zM.q l1) _ _ (enters_of Tryz.func54 (by kernel_rfl) rfl) k a0 t335 _ (zM.pred l1 _ c1 gl _ (zd BKl.out sqB) (Kd.zt HR1.out sqB) HC1.out) A5.out).mono ?_
        rintro e w12 ⟨v336, rfl, ho0, hb⟩
        have n0_ := Aside0.mk (Kd.zD ho0 (zh sqB))
        have n1_ := Aside0.mk (zd (g := gb333) (o := .cells #[.int .i64 0, .slice none 0 0] 24 (0, 0)) (sqK BK333.out) hb)
        have n2_ := Aside0.mk (zc sqB hb)
        clear BK333
        clear HB
        have HO337 := n0_
        have BK333 := n1_
        have HB := n2_
        clear n0_ n1_ n2_
        (try clear hb)
        (try clear hb2)
        (try clear hk)
        (try clear hi)
        (try clear ho0)
        obtain ⟨Ao13, co13, eo13⟩ := Kd.zK HO337.out
        subst eo13
        (try clear hcl)
        have hcl : World.cell? _ ⟨gl, 0, none⟩ = some (.slice A1 l1.length c1) := (za (zd BKl.out HB.out) 0).trans rfl
        go_wp2_with (first
          | ((with_reducible refine zm (N := 4) rfl ?_); refine zq ?hg (N := 4) ?hd (cs := #[.int .i64 0, .slice none 0 0]) (t := 24) ?hr ?_; (case hd => rfl); (case hg => rfl); (case hr => exact sqG); intro gb333 hg w11 hbox hb; have n0_ := Aside0.mk (zc sqB hb); have n1_ := Aside0.mk (hbox); have n2_ := Aside0.mk ((sqS hg : wl.heap.size ≤ gb333)); have n3_ := Aside0.mk ((sqS hg : wl.heap.size ≤ gb333)); clear HB; have HB := n0_; have BK333 := n1_; have GW333 := n2_; have GE333 := n3_; clear n0_ n1_ n2_ n3_; clear hb hbox hg; (try clear hcl); have hcl : World.cell? _ ⟨gl, 0, none⟩ = some (.slice A1 l1.length c1) := (za (zd BKl.out HB.out) 0).trans rfl)
          | ((with_reducible refine ze (f := 19) rfl ?_); refine zv (some 10) rfl rfl Tryz.func19 (by kernel_rfl) rfl #[.int .i64 a0, .slice A1 l1.length c1] rfl sqM ?_; (with_reducible refine (zJ.calls k a0 _ _ l1 true _ ?side1 ?side2 A3.out).mono ?_); (case side1 => exact sqC (Kd.zt HR1.out HB.out)); (case side2 => exact HC1.out); rintro e w' ⟨rfl, ⟨nd, rfl⟩⟩; refine ⟨_, rfl, ?_⟩; (try (rw [qO w11]; generalize hq_ : World.drewN w11 _ = w11; have n0_ : Aside0 (w11.heap[gb333]? = some (.cells #[.int .i64 0, .slice none 0 0] 24 (0, 0))) := ⟨by rw [← hq_]; exact (sqK BK333.out)⟩; have n1_ : Aside0 (Below wl.heap.size wl w11) := ⟨by rw [← hq_]; exact sqB⟩; clear BK333 HB hq_; have BK333 := n0_; have HB := n1_; clear n0_ n1_; have hczqgb333_0 : w11.cell? ⟨gb333, 0, none⟩ = some (.int .i64 0) := (za BK333.out 0).trans rfl; have hfzqgb333_0 := zb BK333.out 0; have hczqgb333_1 : w11.cell? ⟨gb333, 1, none⟩ = some (.slice none 0 0) := (za BK333.out 1).trans rfl; have hfzqgb333_1 := zb BK333.out 1)); (try clear hcl); have hcl : World.cell? _ ⟨gl, 0, none⟩ = some (.slice A1 l1.length c1) := (za (zd BKl.out HB.out) 0).trans rfl)
          | ((with_reducible refine ze (f := 52) rfl ?_); refine zv (some 18) rfl rfl Tryz.func52 (by kernel_rfl) rfl #[.int .i64 a0, .slice Ao13 t335.length co13] rfl sqM ?_; (with_reducible refine (ql.calls k a0 _ _ t335 t338 t339 true _ ?side1 ?side2 A6.out).mono ?_); (case side1 => exact sqC (Kd.zg HO337.out).2.2); (case side2 => exact (Kd.zg HO337.out).2.1); rintro e w14 ⟨v340, rfl, ho0, hb⟩; refine ⟨_, rfl, ?_⟩; have n0_ := Aside0.mk (Kd.zw (sqR HO337.out) (Kd.zQ ho0) hb); have n1_ := Aside0.mk (Kd.zD (Kd.zP ho0 (Kd.qt (sqR HO337.out))) (zh sqB)); have n2_ := Aside0.mk (zd (g := gb333) (o := .cells #[.int .i64 0, .slice none 0 0] 24 (0, 0)) (sqK BK333.out) hb); have n3_ := Aside0.mk (zc sqB hb); clear HO337; clear BK333; clear HB; have HO337 := n0_; have HO341 := n1_; have BK333 := n2_; have HB := n3_; clear n0_ n1_ n2_ n3_; (try clear hb); (try clear hb2); (try clear hk); (try clear hi); (try clear ho0); (try clear hcl); have hcl : World.cell? _ ⟨gl, 0, none⟩ = some (.slice A1 l1.length c1) := (za (zd BKl.out HB.out) 0).trans rfl)
          | ((with_reducible refine zm (N := 6) rfl ?_); refine zq ?hg (N := 6) ?hd (cs := #[.int .i64 0, .slice none 0 0]) (t := 24) ?hr ?_; (case hd => rfl); (case hg => rfl); (case hr => exact sqG); intro gb343 hg w15 hbox hb; have n0_ := Aside0.mk (Kd.zx (sqR HO337.out) hb); have n1_ := Aside0.mk (Kd.zx (sqR HO341.out) hb); have n2_ := Aside0.mk (zd (g := gb333) (o := .cells #[.int .i64 0, .slice none 0 0] 24 (0, 0)) (sqK BK333.out) hb); have n3_ := Aside0.mk (zc sqB hb); have n4_ := Aside0.mk (hbox); have n5_ := Aside0.mk ((sqS hg : wl.heap.size ≤ gb343)); have n6_ := Aside0.mk ((sqS hg : wl.heap.size ≤ gb343)); have n7_ := Aside0.mk ((by rw [hg]; exact Nat.ne_of_lt (zU (g := gb333) (o := .cells #[.int .i64 0, .slice none 0 0] 24 (0, 0)) (sqK BK333.out)) : gb333 ≠ gb343)); have n8_ := Aside0.mk ((by rw [hg]; exact Nat.ne_of_gt (zU (g := gb333) (o := .cells #[.int .i64 0, .slice none 0 0] 24 (0, 0)) (sqK BK333.out)) : gb343 ≠ gb333)); clear HO337; clear HO341; clear BK333; clear HB; have HO337 := n0_; have HO341 := n1_; have BK333 := n2_; have HB := n3_; have BK343 := n4_; have GW343 := n5_; have GE343 := n6_; have NB333_343 := n7_; have NB343_333 := n8_; clear n0_ n1_ n2_ n3_ n4_ n5_ n6_ n7_ n8_; clear hb hbox hg; have hnb16 := NB343_333.out; have hnc16 := NB333_343.out; have hcz17_0 : w15.cell? ⟨gb343, 0, none⟩ = some (.int .i64 0) := (za BK343.out 0).trans rfl; have hcz17_1 : w15.cell? ⟨gb343, 1, none⟩ = some (.slice none 0 0) := (za BK343.out 1).trans rfl; have hfz17_0 := zb BK343.out 0; have hfz17_1 := zb BK343.out 1; obtain ⟨Ao18, co18, eo18⟩ := Kd.zK HO341.out; subst eo18; (try clear hcl); have hcl : World.cell? _ ⟨gl, 0, none⟩ = some (.slice A1 l1.length c1) := (za (zd BKl.out HB.out) 0).trans rfl))
        have n0_ : Aside0 (Kd.R (Kd.int .i64) 3 ((w15.setCell ⟨gb343, 0, none⟩ (.int .i64 t338)).setCell ⟨gb343, 1, none⟩ (.slice Ao18 t339.length co18)) wl.heap.size (fun k_ => some k_ ≠ (.slice Ao18 t339.length co18 : Value).ownBlock) (.slice Ao13 t335.length co13) t335) := ⟨by refine sqR ?_; exact Kd.zn (Kd.zp (p := ⟨gb343, 1, none⟩) (Kd.zp (p := ⟨gb343, 0, none⟩) (Kd.zz HO337.out BK343.out (by decide)) (fun _ hk => hk.2) (.int .i64 t338)) (fun _ hk => hk.2) (.slice Ao18 t339.length co18)) (fun _ hk => hk.1.2)⟩
        have n1_ : Aside0 (Kd.R (Kd.int .i64) 3 ((w15.setCell ⟨gb343, 0, none⟩ (.int .i64 t338)).setCell ⟨gb343, 1, none⟩ (.slice Ao18 t339.length co18)) wl.heap.size (fun k_ => some k_ ≠ (.slice Ao13 t335.length co13 : Value).ownBlock) (.slice Ao18 t339.length co18) t339) := ⟨by refine sqR ?_; exact Kd.zn (Kd.zp (p := ⟨gb343, 1, none⟩) (Kd.zp (p := ⟨gb343, 0, none⟩) (Kd.zz HO341.out BK343.out (by decide)) (fun _ hk => hk.2) (.int .i64 t338)) (fun _ hk => hk.2) (.slice Ao18 t339.length co18)) (fun _ hk => hk.1.2)⟩
        have n2_ : Aside0 (((w15.setCell ⟨gb343, 0, none⟩ (.int .i64 t338)).setCell ⟨gb343, 1, none⟩ (.slice Ao18 t339.length co18)).heap[gb333]? = some (.cells #[.int .i64 0, .slice none 0 0] 24 (0, 0))) := ⟨by refine sqK ?_; refine z6 ?_ NB333_343.out _; refine sqK ?_; refine z6 ?_ NB333_343.out _; refine sqK ?_; exact BK333.out⟩
        have n3_ : Aside0 (((w15.setCell ⟨gb343, 0, none⟩ (.int .i64 t338)).setCell ⟨gb343, 1, none⟩ (.slice Ao18 t339.length co18)).heap[gb343]? = some (.cells #[.int .i64 t338, .slice Ao18 t339.length co18] 24 (0, 0))) := ⟨by refine sqK ?_; refine zF (cs := #[.int .i64 t338, .slice none 0 0]) ?_ 1 _ rfl; refine sqK ?_; refine zF (cs := #[.int .i64 0, .slice none 0 0]) ?_ 0 _ rfl; refine sqK ?_; exact BK343.out⟩
        have n4_ : Aside0 (Below wl.heap.size wl ((w15.setCell ⟨gb343, 0, none⟩ (.int .i64 t338)).setCell ⟨gb343, 1, none⟩ (.slice Ao18 t339.length co18))) := ⟨sqB⟩
        (try clear HO337)
        (try clear HO341)
        (try clear BK333)
        (try clear BK343)
        (try clear HB)
        generalize ((w15.setCell ⟨gb343, 0, none⟩ (.int .i64 t338)).setCell ⟨gb343, 1, none⟩ (.slice Ao18 t339.length co18)) = w19 at n0_ n1_ n2_ n3_ n4_ ⊢
        have HO337 := n0_
        have HO341 := n1_
        have BK333 := n2_
        have BK343 := n3_
        have HB := n4_
        clear n0_ n1_ n2_ n3_ n4_
        have n0_ := Aside0.mk (Kd.jL HO337.out)
        have n1_ := Aside0.mk (Kd.jL HO341.out)
        have n2_ := Aside0.mk (jj BK333.out)
        have n3_ := Aside0.mk (jj BK343.out)
        have n4_ := Aside0.mk (qg HB.out)
        clear HO337
        clear HO341
        clear BK333
        clear BK343
        clear HB
        have HO337 := n0_
        have HO341 := n1_
        have BK333 := n2_
        have BK343 := n3_
        have HB := n4_
        clear n0_ n1_ n2_ n3_ n4_
        refine jW (n := 9) (S := fun w' => w'.cell? ⟨gb343, 0, none⟩ = some (.int .i64 t338) ∧ w'.cell? ⟨gb343, 1, none⟩ = some (.slice Ao18 t339.length co18) ∧ w'.cell? ⟨gl, 0, none⟩ = some (.slice A1 l1.length c1)) (ds := []) #[false, false, false, false, false, false, false, false, false] (by kernel_rfl) rfl rfl ⟨(za BK343.out 0).trans rfl, (za BK343.out 1).trans rfl, (za (zd BKl.out HB.out) 0).trans rfl⟩ (fun hHeld => ?_); refine ja zW.zbj zW.zak (fun HT_ HW_ => ?_)
        generalize w19.drew = w20 at HO337 HO341 BK333 BK343 HB hHeld ⊢
        refine zO (i := 0) (N := some 21) (v := ?_) (a' := ?_) #[true, false, false, false, false, false, false, false, false] rfl rfl (zC HT_.out (by kernel_rfl)) (fun _ _ _ h => h) (Or.inl ⟨by rfl, ?_⟩) ?_ ?_
        rotate_left
        · intro w'
          go_simp
          with_reducible rfl
        rotate_left
        · simp only [Act.put, List.setIfInBounds_toArray, List.set_cons_zero, List.set_cons_succ, zi, zj]
          rfl
        refine zO (i := 1) (N := some 22) (v := ?_) (a' := ?_) #[true, true, false, false, false, false, false, false, false] rfl rfl (zC HT_.out (by kernel_rfl)) (fun _ _ _ h => h) (Or.inl ⟨by rfl, ?_⟩) ?_ ?_
        rotate_left
        · intro w'
          go_simp
          with_reducible rfl
        rotate_left
        · simp only [Act.put, List.setIfInBounds_toArray, List.set_cons_zero, List.set_cons_succ, zi, zj]
          rfl
        refine zO (i := 2) (N := some 23) (v := ?_) (a' := ?_) #[true, true, true, false, false, false, false, false, false] rfl rfl (zC HT_.out (by kernel_rfl)) (fun _ _ _ h => h) (Or.inl ⟨by rfl, ?_⟩) ?_ ?_
        rotate_left
        · intro w'
          go_simp
          with_reducible rfl
        rotate_left
        · simp only [Act.put, List.setIfInBounds_toArray, List.set_cons_zero, List.set_cons_succ, zi, zj]
          rfl
        refine jD (i := 5) (N := some 26) (v := ?_) (a' := ?_) #[true, true, true, false, false, true, false, false, false] rfl rfl (qT HT_.out HW_.out (by kernel_rfl)) (fun _ _ _ h => h) (Or.inl ⟨by rfl, ?_⟩) hHeld ?_ ?_
        rotate_left
        · rintro w' ⟨s0, s1, s2⟩
          go_simp
          with_reducible rfl
        rotate_left
        · simp only [Act.put, List.setIfInBounds_toArray, List.set_cons_zero, List.set_cons_succ, zi, zj]
          rfl
        refine jD (i := 3) (N := some 24) (v := ?_) (a' := ?_) #[true, true, true, true, false, true, false, false, false] rfl rfl (qT HT_.out HW_.out (by kernel_rfl)) (fun _ _ _ h => h) (Or.inl ⟨by rfl, ?_⟩) hHeld ?_ ?_
        rotate_left
        · rintro w' ⟨s0, s1, s2⟩
          go_simp
          with_reducible rfl
        rotate_left
        · simp only [Act.put, List.setIfInBounds_toArray, List.set_cons_zero, List.set_cons_succ, zi, zj]
          rfl
        refine yT (i := 4) (N := some 25) #[true, true, true, true, true, true, false, false, false] rfl rfl (j7 HT_.out (by kernel_rfl)) (by decide) (fun K hK => ?_)
        refine yE Tryz.func56 (by kernel_rfl) rfl #[.agg #[.int .i64 t338, .slice Ao18 t339.length co18]] (by rfl) rfl rfl sqM ?_
        with_reducible refine (qm.calls k t338 _ _ t339 t344 _ ?side1 ?side2 A8.out).mono ?_
        (case side1 => exact sqC (Kd.zg HO341.out).2.2)
        (case side2 => exact (Kd.zg HO341.out).2.1)
        rintro e w21 ⟨v345, rfl, ho0, hb⟩
        refine ⟨_, rfl, ?_⟩
        have n0_ := Aside0.mk (Kd.zw (sqR HO337.out) (Kd.zQ ho0) hb)
        have n1_ := Aside0.mk (Kd.zw (sqR HO341.out) (Kd.zQ ho0) hb)
        have n2_ := Aside0.mk (Kd.zD (Kd.zP (Kd.zP ho0 (Kd.qt (sqR HO337.out))) (Kd.qt (sqR HO341.out))) (zh sqB))
        have n3_ := Aside0.mk (zd (g := gb333) (o := .cells #[.int .i64 0, .slice none 0 0] 24 (0, 0)) (sqK BK333.out) hb)
        have n4_ := Aside0.mk (zd (g := gb343) (o := .cells #[.int .i64 t338, .slice Ao18 t339.length co18] 24 (0, 0)) (sqK BK343.out) hb)
        have n5_ := Aside0.mk (zc sqB hb)
        clear HO337
        clear HO341
        clear BK333
        clear BK343
        clear HB
        have HO337 := n0_
        have HO341 := n1_
        have HO346 := n2_
        have BK333 := n3_
        have BK343 := n4_
        have HB := n5_
        clear n0_ n1_ n2_ n3_ n4_ n5_
        (try clear hb)
        (try clear hb2)
        (try clear hk)
        (try clear hi)
        (try clear ho0)
        obtain ⟨Ao22, co22, eo22⟩ := Kd.zK HO346.out
        (first | subst eo22 | (injection eo22 with f1_ f2_ f3_; have f4_ := f1_.symm; have f5_ := f3_.symm; clear f1_ f2_ f3_; subst f4_; subst f5_))
        refine hK.out _ _ ⟨(za BK343.out 0).trans rfl, (za BK343.out 1).trans rfl, (za (zd BKl.out HB.out) 0).trans rfl⟩ (fun hHeld => ?_)
        clear hK K
        refine vG (a' := ?_) ?_ ?_
        rotate_left
        · show Act.put _ (some 25) _ = _
          simp only [Act.put, List.setIfInBounds_toArray, List.set_cons_zero, List.set_cons_succ, zi, zj]
          rfl
        refine yT (i := 6) (N := some 27) #[true, true, true, true, true, true, true, false, false] rfl rfl (j7 HT_.out (by kernel_rfl)) (by decide) (fun K hK => ?_)
        refine yE Tryz.func23 (by kernel_rfl) rfl #[.slice Ao22 t344.length co22, .slice A1 l1.length c1] (by rfl) rfl rfl sqM ?_
        with_reducible refine (zr.calls k _ _ t344 _ _ l1 true _ ?side1 ?side2 ?side3 ?side4 A9.out).mono ?_
        (case side1 => exact sqC (Kd.zg HO346.out).2.2)
        (case side2 => exact (Kd.zg HO346.out).2.1)
        (case side3 => exact sqC (Kd.zt HR1.out HB.out))
        (case side4 => exact HC1.out)
        rintro e w' ⟨rfl, ⟨nd, rfl⟩⟩
        refine ⟨_, rfl, ?_⟩
        refine hK.out _ _ ⟨(za BK343.out 0).trans rfl, (za BK343.out 1).trans rfl, (za (zd BKl.out HB.out) 0).trans rfl⟩ (fun hHeld => ?_)
        clear hK K
        refine vG (a' := ?_) ?_ ?_
        rotate_left
        · show Act.put _ (some 27) _ = _
          simp only [Act.put, List.setIfInBounds_toArray, List.set_cons_zero, List.set_cons_succ, zi, zj]
          rfl
        refine zO (i := 7) (N := some 28) (v := ?_) (a' := ?_) #[true, true, true, true, true, true, true, true, false] rfl rfl (zC HT_.out (by kernel_rfl)) (fun _ _ _ h => h) (Or.inl ⟨by rfl, ?_⟩) ?_ ?_
        rotate_left
        · intro w'
          go_simp
          with_reducible rfl
        rotate_left
        · simp only [Act.put, List.setIfInBounds_toArray, List.set_cons_zero, List.set_cons_succ, zi, zj]
          rfl
        refine zO (i := 8) (N := some 29) (v := ?_) (a' := ?_) #[true, true, true, true, true, true, true, true, true] rfl rfl (zC HT_.out (by kernel_rfl)) (fun _ _ _ h => h) (Or.inl ⟨by rfl, ?_⟩) ?_ ?_
        rotate_left
        · intro w'
          go_simp
          with_reducible rfl
        rotate_left
        · simp only [Act.put, List.setIfInBounds_toArray, List.set_cons_zero, List.set_cons_succ, zi, zj]
          rfl
        refine vF (jK HT_.out (by kernel_rfl)) ?_
        have hcz23_0 : w21.cell? ⟨gb343, 0, none⟩ = some (.int .i64 t338) := (za BK343.out 0).trans rfl
        have hcz23_1 : w21.cell? ⟨gb343, 1, none⟩ = some (.slice Ao18 t339.length co18) := (za BK343.out 1).trans rfl
        have hfz23_0 := zb BK343.out 0
        have hfz23_1 := zb BK343.out 1
        have hcz24_0 : w21.cell? ⟨gb333, 0, none⟩ = some (.int .i64 0) := (za BK333.out 0).trans rfl
        have hcz24_1 : w21.cell? ⟨gb333, 1, none⟩ = some (.slice none 0 0) := (za BK333.out 1).trans rfl
        have hfz24_0 := zb BK333.out 0
        have hfz24_1 := zb BK333.out 1
        (try clear hcl)
        have hcl : World.cell? _ ⟨gl, 0, none⟩ = some (.slice A1 l1.length c1) := (za (zd BKl.out HB.out) 0).trans rfl
        try go_wp2
        refine bodyPost_ret (qz rfl _ _ gb333 24 #[.int .i64 t338, .slice Ao18 t339.length co18] (0, 0) _ rfl (by refine sqK ?_; refine zF (cs := #[.int .i64 t338, .slice none 0 0]) ?_ 1 _ rfl; refine sqK ?_; refine zF (cs := #[.int .i64 0, .slice none 0 0]) ?_ 0 _ rfl; refine sqK ?_; exact BK333.out) Tryz.underlying24 rfl (by kernel_rfl)) rfl ?_
        exact ⟨_, sqE, Kd.zD (base := wl.heap.size) (by refine sqR ?_; exact Kd.zn (Kd.zp (p := ⟨gb333, 1, none⟩) (Kd.zp (p := ⟨gb333, 0, none⟩) (Kd.zz HO341.out BK333.out (by decide)) (fun _ hk => hk.2) (.int .i64 t338)) (fun _ hk => hk.2) (.slice Ao18 t339.length co18)) (fun _ hk => trivial)) (zh HBl.out), zc HBl.out sqB⟩
      · replace c10 := Bool.eq_false_iff.mpr c10
        subst c10
        have H1 : (some (0, ([] : List Int), false)) = some (r1, r2, r3) := by rw [if_neg (show ¬ (false = true) by decide)] at H; exact H
        clear H
        have H := H1
        clear H1
        simp only [Option.some.injEq, Prod.mk.injEq] at H
        obtain ⟨rfl, rfl, rfl⟩ := H
        go_enter Tryz.func37, Tryz.ntmps37
        go_wp2_with (first
          | ((with_reducible refine zm (N := 3) rfl ?_); refine zq ?hg (N := 3) ?hd (cs := #[.slice A1 l1.length c1]) (t := 22) ?hr ?_; (case hd => rfl); (case hg => rfl); (case hr => exact sqG); intro gl hg wl hbox hb; have HBl := Aside0.mk hb; have BKl := Aside0.mk hbox; have nr_ := Aside0.mk (Kd.zt HR1.out hb); clear HR1 HB; have HR1 := nr_; clear nr_; have HB := Aside0.mk (Below.refl wl.heap.size wl); have hcl : wl.cell? ⟨gl, 0, none⟩ = some (.slice A1 l1.length c1) := (za BKl.out 0).trans rfl; clear hb hbox hg)
          | ((with_reducible refine zm (N := 4) rfl ?_); refine zq ?hg (N := 4) ?hd (cs := #[.int .i64 0, .slice none 0 0]) (t := 24) ?hr ?_; (case hd => rfl); (case hg => rfl); (case hr => exact sqG); intro gb333 hg w25 hbox hb; have n0_ := Aside0.mk (zc sqB hb); have n1_ := Aside0.mk (hbox); have n2_ := Aside0.mk ((sqS hg : wl.heap.size ≤ gb333)); have n3_ := Aside0.mk ((sqS hg : wl.heap.size ≤ gb333)); clear HB; have HB := n0_; have BK333 := n1_; have GW333 := n2_; have GE333 := n3_; clear n0_ n1_ n2_ n3_; clear hb hbox hg; (try clear hcl); have hcl : World.cell? _ ⟨gl, 0, none⟩ = some (.slice A1 l1.length c1) := (za (zd BKl.out HB.out) 0).trans rfl)
          | ((with_reducible refine ze (f := 19) rfl ?_); refine zv (some 10) rfl rfl Tryz.func19 (by kernel_rfl) rfl #[.int .i64 a0, .slice A1 l1.length c1] rfl sqM ?_; (with_reducible refine (zJ.calls k a0 _ _ l1 true _ ?side1 ?side2 A3.out).mono ?_); (case side1 => exact sqC (Kd.zt HR1.out HB.out)); (case side2 => exact HC1.out); rintro e w' ⟨rfl, ⟨nd, rfl⟩⟩; refine ⟨_, rfl, ?_⟩; (try (rw [qO w25]; generalize hq_ : World.drewN w25 _ = w25; have n0_ : Aside0 (w25.heap[gb333]? = some (.cells #[.int .i64 0, .slice none 0 0] 24 (0, 0))) := ⟨by rw [← hq_]; exact (sqK BK333.out)⟩; have n1_ : Aside0 (Below wl.heap.size wl w25) := ⟨by rw [← hq_]; exact sqB⟩; clear BK333 HB hq_; have BK333 := n0_; have HB := n1_; clear n0_ n1_; have hczqgb333_0 : w25.cell? ⟨gb333, 0, none⟩ = some (.int .i64 0) := (za BK333.out 0).trans rfl; have hfzqgb333_0 := zb BK333.out 0; have hczqgb333_1 : w25.cell? ⟨gb333, 1, none⟩ = some (.slice none 0 0) := (za BK333.out 1).trans rfl; have hfzqgb333_1 := zb BK333.out 1)); (try clear hcl); have hcl : World.cell? _ ⟨gl, 0, none⟩ = some (.slice A1 l1.length c1) := (za (zd BKl.out HB.out) 0).trans rfl)
          | ((with_reducible refine ze (f := 52) rfl ?_); refine zv (some 18) rfl rfl Tryz.func52 (by kernel_rfl) rfl #[.int .i64 a0, .slice Ao27 t335.length co27] rfl sqM ?_; (with_reducible refine (ql.calls k a0 _ _ t335 t338 t339 true _ ?side1 ?side2 A6.out).mono ?_); (case side1 => exact sqC (Kd.zg HO337.out).2.2); (case side2 => exact (Kd.zg HO337.out).2.1); rintro e w28 ⟨v340, rfl, ho0, hb⟩; refine ⟨_, rfl, ?_⟩; have n0_ := Aside0.mk (Kd.zw (sqR HO337.out) (Kd.zQ ho0) hb); have n1_ := Aside0.mk (Kd.zD (Kd.zP ho0 (Kd.qt (sqR HO337.out))) (zh sqB)); have n2_ := Aside0.mk (zd (g := gb333) (o := .cells #[.int .i64 0, .slice none 0 0] 24 (0, 0)) (sqK BK333.out) hb); have n3_ := Aside0.mk (zc sqB hb); clear HO337; clear BK333; clear HB; have HO337 := n0_; have HO341 := n1_; have BK333 := n2_; have HB := n3_; clear n0_ n1_ n2_ n3_; (try clear hb); (try clear hb2); (try clear hk); (try clear hi); (try clear ho0); (try clear hcl); have hcl : World.cell? _ ⟨gl, 0, none⟩ = some (.slice A1 l1.length c1) := (za (zd BKl.out HB.out) 0).trans rfl)
          | ((with_reducible refine zm (N := 6) rfl ?_); refine zq ?hg (N := 6) ?hd (cs := #[.int .i64 0, .slice none 0 0]) (t := 24) ?hr ?_; (case hd => rfl); (case hg => rfl); (case hr => exact sqG); intro gb343 hg w29 hbox hb; have n0_ := Aside0.mk (Kd.zx (sqR HO337.out) hb); have n1_ := Aside0.mk (Kd.zx (sqR HO341.out) hb); have n2_ := Aside0.mk (zd (g := gb333) (o := .cells #[.int .i64 0, .slice none 0 0] 24 (0, 0)) (sqK BK333.out) hb); have n3_ := Aside0.mk (zc sqB hb); have n4_ := Aside0.mk (hbox); have n5_ := Aside0.mk ((sqS hg : wl.heap.size ≤ gb343)); have n6_ := Aside0.mk ((sqS hg : wl.heap.size ≤ gb343)); have n7_ := Aside0.mk ((by rw [hg]; exact Nat.ne_of_lt (zU (g := gb333) (o := .cells #[.int .i64 0, .slice none 0 0] 24 (0, 0)) (sqK BK333.out)) : gb333 ≠ gb343)); have n8_ := Aside0.mk ((by rw [hg]; exact Nat.ne_of_gt (zU (g := gb333) (o := .cells #[.int .i64 0, .slice none 0 0] 24 (0, 0)) (sqK BK333.out)) : gb343 ≠ gb333)); clear HO337; clear HO341; clear BK333; clear HB; have HO337 := n0_; have HO341 := n1_; have BK333 := n2_; have HB := n3_; have BK343 := n4_; have GW343 := n5_; have GE343 := n6_; have NB333_343 := n7_; have NB343_333 := n8_; clear n0_ n1_ n2_ n3_ n4_ n5_ n6_ n7_ n8_; clear hb hbox hg; have hnb30 := NB343_333.out; have hnc30 := NB333_343.out; have hcz31_0 : w29.cell? ⟨gb343, 0, none⟩ = some (.int .i64 0) := (za BK343.out 0).trans rfl; have hcz31_1 : w29.cell? ⟨gb343, 1, none⟩ = some (.slice none 0 0) := (za BK343.out 1).trans rfl; have hfz31_0 := zb BK343.out 0; have hfz31_1 := zb BK343.out 1; obtain ⟨Ao32, co32, eo32⟩ := Kd.zK HO341.out; subst eo32; (try clear hcl); have hcl : World.cell? _ ⟨gl, 0, none⟩ = some (.slice A1 l1.length c1) := (za (zd BKl.out HB.out) 0).trans rfl))
        refine (vM (zM.q l1) _ _ (enters_of Tryz.func54 (by kernel_rfl) rfl) k a0 t335 _ (zM.pred l1 _ c1 gl _ (zd BKl.out sqB) (Kd.zt HR1.out sqB) HC1.out) A5.out).mono ?_
        rintro e w26 ⟨v336, rfl, ho0, hb⟩
        have n0_ := Aside0.mk (Kd.zD ho0 (zh sqB))
        have n1_ := Aside0.mk (zd (g := gb333) (o := .cells #[.int .i64 0, .slice none 0 0] 24 (0, 0)) (sqK BK333.out) hb)
        have n2_ := Aside0.mk (zc sqB hb)
        clear BK333
        clear HB
        have HO337 := n0_
        have BK333 := n1_
        have HB := n2_
        clear n0_ n1_ n2_
        (try clear hb)
        (try clear hb2)
        (try clear hk)
        (try clear hi)
        (try clear ho0)
        obtain ⟨Ao27, co27, eo27⟩ := Kd.zK HO337.out
        subst eo27
        (try clear hcl)
        have hcl : World.cell? _ ⟨gl, 0, none⟩ = some (.slice A1 l1.length c1) := (za (zd BKl.out HB.out) 0).trans rfl
        go_wp2_with (first
          | ((with_reducible refine zm (N := 4) rfl ?_); refine zq ?hg (N := 4) ?hd (cs := #[.int .i64 0, .slice none 0 0]) (t := 24) ?hr ?_; (case hd => rfl); (case hg => rfl); (case hr => exact sqG); intro gb333 hg w25 hbox hb; have n0_ := Aside0.mk (zc sqB hb); have n1_ := Aside0.mk (hbox); have n2_ := Aside0.mk ((sqS hg : wl.heap.size ≤ gb333)); have n3_ := Aside0.mk ((sqS hg : wl.heap.size ≤ gb333)); clear HB; have HB := n0_; have BK333 := n1_; have GW333 := n2_; have GE333 := n3_; clear n0_ n1_ n2_ n3_; clear hb hbox hg; (try clear hcl); have hcl : World.cell? _ ⟨gl, 0, none⟩ = some (.slice A1 l1.length c1) := (za (zd BKl.out HB.out) 0).trans rfl)
          | ((with_reducible refine ze (f := 19) rfl ?_); refine zv (some 10) rfl rfl Tryz.func19 (by kernel_rfl) rfl #[.int .i64 a0, .slice A1 l1.length c1] rfl sqM ?_; (with_reducible refine (zJ.calls k a0 _ _ l1 true _ ?side1 ?side2 A3.out).mono ?_); (case side1 => exact sqC (Kd.zt HR1.out HB.out)); (case side2 => exact HC1.out); rintro e w' ⟨rfl, ⟨nd, rfl⟩⟩; refine ⟨_, rfl, ?_⟩; (try (rw [qO w25]; generalize hq_ : World.drewN w25 _ = w25; have n0_ : Aside0 (w25.heap[gb333]? = some (.cells #[.int .i64 0, .slice none 0 0] 24 (0, 0))) := ⟨by rw [← hq_]; exact (sqK BK333.out)⟩; have n1_ : Aside0 (Below wl.heap.size wl w25) := ⟨by rw [← hq_]; exact sqB⟩; clear BK333 HB hq_; have BK333 := n0_; have HB := n1_; clear n0_ n1_; have hczqgb333_0 : w25.cell? ⟨gb333, 0, none⟩ = some (.int .i64 0) := (za BK333.out 0).trans rfl; have hfzqgb333_0 := zb BK333.out 0; have hczqgb333_1 : w25.cell? ⟨gb333, 1, none⟩ = some (.slice none 0 0) := (za BK333.out 1).trans rfl; have hfzqgb333_1 := zb BK333.out 1)); (try clear hcl); have hcl : World.cell? _ ⟨gl, 0, none⟩ = some (.slice A1 l1.length c1) := (za (zd BKl.out HB.out) 0).trans rfl)
          | ((with_reducible refine ze (f := 52) rfl ?_); refine zv (some 18) rfl rfl Tryz.func52 (by kernel_rfl) rfl #[.int .i64 a0, .slice Ao27 t335.length co27] rfl sqM ?_; (with_reducible refine (ql.calls k a0 _ _ t335 t338 t339 true _ ?side1 ?side2 A6.out).mono ?_); (case side1 => exact sqC (Kd.zg HO337.out).2.2); (case side2 => exact (Kd.zg HO337.out).2.1); rintro e w28 ⟨v340, rfl, ho0, hb⟩; refine ⟨_, rfl, ?_⟩; have n0_ := Aside0.mk (Kd.zw (sqR HO337.out) (Kd.zQ ho0) hb); have n1_ := Aside0.mk (Kd.zD (Kd.zP ho0 (Kd.qt (sqR HO337.out))) (zh sqB)); have n2_ := Aside0.mk (zd (g := gb333) (o := .cells #[.int .i64 0, .slice none 0 0] 24 (0, 0)) (sqK BK333.out) hb); have n3_ := Aside0.mk (zc sqB hb); clear HO337; clear BK333; clear HB; have HO337 := n0_; have HO341 := n1_; have BK333 := n2_; have HB := n3_; clear n0_ n1_ n2_ n3_; (try clear hb); (try clear hb2); (try clear hk); (try clear hi); (try clear ho0); (try clear hcl); have hcl : World.cell? _ ⟨gl, 0, none⟩ = some (.slice A1 l1.length c1) := (za (zd BKl.out HB.out) 0).trans rfl)
          | ((with_reducible refine zm (N := 6) rfl ?_); refine zq ?hg (N := 6) ?hd (cs := #[.int .i64 0, .slice none 0 0]) (t := 24) ?hr ?_; (case hd => rfl); (case hg => rfl); (case hr => exact sqG); intro gb343 hg w29 hbox hb; have n0_ := Aside0.mk (Kd.zx (sqR HO337.out) hb); have n1_ := Aside0.mk (Kd.zx (sqR HO341.out) hb); have n2_ := Aside0.mk (zd (g := gb333) (o := .cells #[.int .i64 0, .slice none 0 0] 24 (0, 0)) (sqK BK333.out) hb); have n3_ := Aside0.mk (zc sqB hb); have n4_ := Aside0.mk (hbox); have n5_ := Aside0.mk ((sqS hg : wl.heap.size ≤ gb343)); have n6_ := Aside0.mk ((sqS hg : wl.heap.size ≤ gb343)); have n7_ := Aside0.mk ((by rw [hg]; exact Nat.ne_of_lt (zU (g := gb333) (o := .cells #[.int .i64 0, .slice none 0 0] 24 (0, 0)) (sqK BK333.out)) : gb333 ≠ gb343)); have n8_ := Aside0.mk ((by rw [hg]; exact Nat.ne_of_gt (zU (g := gb333) (o := .cells #[.int .i64 0, .slice none 0 0] 24 (0, 0)) (sqK BK333.out)) : gb343 ≠ gb333)); clear HO337; clear HO341; clear BK333; clear HB; have HO337 := n0_; have HO341 := n1_; have BK333 := n2_; have HB := n3_; have BK343 := n4_; have GW343 := n5_; have GE343 := n6_; have NB333_343 := n7_; have NB343_333 := n8_; clear n0_ n1_ n2_ n3_ n4_ n5_ n6_ n7_ n8_; clear hb hbox hg; have hnb30 := NB343_333.out; have hnc30 := NB333_343.out; have hcz31_0 : w29.cell? ⟨gb343, 0, none⟩ = some (.int .i64 0) := (za BK343.out 0).trans rfl; have hcz31_1 : w29.cell? ⟨gb343, 1, none⟩ = some (.slice none 0 0) := (za BK343.out 1).trans rfl; have hfz31_0 := zb BK343.out 0; have hfz31_1 := zb BK343.out 1; obtain ⟨Ao32, co32, eo32⟩ := Kd.zK HO341.out; subst eo32; (try clear hcl); have hcl : World.cell? _ ⟨gl, 0, none⟩ = some (.slice A1 l1.length c1) := (za (zd BKl.out HB.out) 0).trans rfl))
        have n0_ : Aside0 (Kd.R (Kd.int .i64) 3 ((w29.setCell ⟨gb343, 0, none⟩ (.int .i64 t338)).setCell ⟨gb343, 1, none⟩ (.slice Ao32 t339.length co32)) wl.heap.size (fun k_ => some k_ ≠ (.slice Ao32 t339.length co32 : Value).ownBlock) (.slice Ao27 t335.length co27) t335) := ⟨by refine sqR ?_; exact Kd.zn (Kd.zp (p := ⟨gb343, 1, none⟩) (Kd.zp (p := ⟨gb343, 0, none⟩) (Kd.zz HO337.out BK343.out (by decide)) (fun _ hk => hk.2) (.int .i64 t338)) (fun _ hk => hk.2) (.slice Ao32 t339.length co32)) (fun _ hk => hk.1.2)⟩
        have n1_ : Aside0 (Kd.R (Kd.int .i64) 3 ((w29.setCell ⟨gb343, 0, none⟩ (.int .i64 t338)).setCell ⟨gb343, 1, none⟩ (.slice Ao32 t339.length co32)) wl.heap.size (fun k_ => some k_ ≠ (.slice Ao27 t335.length co27 : Value).ownBlock) (.slice Ao32 t339.length co32) t339) := ⟨by refine sqR ?_; exact Kd.zn (Kd.zp (p := ⟨gb343, 1, none⟩) (Kd.zp (p := ⟨gb343, 0, none⟩) (Kd.zz HO341.out BK343.out (by decide)) (fun _ hk => hk.2) (.int .i64 t338)) (fun _ hk => hk.2) (.slice Ao32 t339.length co32)) (fun _ hk => hk.1.2)⟩
        have n2_ : Aside0 (((w29.setCell ⟨gb343, 0, none⟩ (.int .i64 t338)).setCell ⟨gb343, 1, none⟩ (.slice Ao32 t339.length co32)).heap[gb333]? = some (.cells #[.int .i64 0, .slice none 0 0] 24 (0, 0))) := ⟨by refine sqK ?_; refine z6 ?_ NB333_343.out _; refine sqK ?_; refine z6 ?_ NB333_343.out _; refine sqK ?_; exact BK333.out⟩
        have n3_ : Aside0 (((w29.setCell ⟨gb343, 0, none⟩ (.int .i64 t338)).setCell ⟨gb343, 1, none⟩ (.slice Ao32 t339.length co32)).heap[gb343]? = some (.cells #[.int .i64 t338, .slice Ao32 t339.length co32] 24 (0, 0))) := ⟨by refine sqK ?_; refine zF (cs := #[.int .i64 t338, .slice none 0 0]) ?_ 1 _ rfl; refine sqK ?_; refine zF (cs := #[.int .i64 0, .slice none 0 0]) ?_ 0 _ rfl; refine sqK ?_; exact BK343.out⟩
        have n4_ : Aside0 (Below wl.heap.size wl ((w29.setCell ⟨gb343, 0, none⟩ (.int .i64 t338)).setCell ⟨gb343, 1, none⟩ (.slice Ao32 t339.length co32))) := ⟨sqB⟩
        (try clear HO337)
        (try clear HO341)
        (try clear BK333)
        (try clear BK343)
        (try clear HB)
        generalize ((w29.setCell ⟨gb343, 0, none⟩ (.int .i64 t338)).setCell ⟨gb343, 1, none⟩ (.slice Ao32 t339.length co32)) = w33 at n0_ n1_ n2_ n3_ n4_ ⊢
        have HO337 := n0_
        have HO341 := n1_
        have BK333 := n2_
        have BK343 := n3_
        have HB := n4_
        clear n0_ n1_ n2_ n3_ n4_
        have n0_ := Aside0.mk (Kd.jL HO337.out)
        have n1_ := Aside0.mk (Kd.jL HO341.out)
        have n2_ := Aside0.mk (jj BK333.out)
        have n3_ := Aside0.mk (jj BK343.out)
        have n4_ := Aside0.mk (qg HB.out)
        clear HO337
        clear HO341
        clear BK333
        clear BK343
        clear HB
        have HO337 := n0_
        have HO341 := n1_
        have BK333 := n2_
        have BK343 := n3_
        have HB := n4_
        clear n0_ n1_ n2_ n3_ n4_
        refine jW (n := 9) (S := fun w' => w'.cell? ⟨gb343, 0, none⟩ = some (.int .i64 t338) ∧ w'.cell? ⟨gb343, 1, none⟩ = some (.slice Ao32 t339.length co32) ∧ w'.cell? ⟨gl, 0, none⟩ = some (.slice A1 l1.length c1)) (ds := []) #[false, false, false, false, false, false, false, false, false] (by kernel_rfl) rfl rfl ⟨(za BK343.out 0).trans rfl, (za BK343.out 1).trans rfl, (za (zd BKl.out HB.out) 0).trans rfl⟩ (fun hHeld => ?_); refine ja zW.zbj zW.zak (fun HT_ HW_ => ?_)
        generalize w33.drew = w34 at HO337 HO341 BK333 BK343 HB hHeld ⊢
        refine zO (i := 0) (N := some 21) (v := ?_) (a' := ?_) #[true, false, false, false, false, false, false, false, false] rfl rfl (zC HT_.out (by kernel_rfl)) (fun _ _ _ h => h) (Or.inl ⟨by rfl, ?_⟩) ?_ ?_
        rotate_left
        · intro w'
          go_simp
          with_reducible rfl
        rotate_left
        · simp only [Act.put, List.setIfInBounds_toArray, List.set_cons_zero, List.set_cons_succ, zi, zj]
          rfl
        refine zO (i := 1) (N := some 22) (v := ?_) (a' := ?_) #[true, true, false, false, false, false, false, false, false] rfl rfl (zC HT_.out (by kernel_rfl)) (fun _ _ _ h => h) (Or.inl ⟨by rfl, ?_⟩) ?_ ?_
        rotate_left
        · intro w'
          go_simp
          with_reducible rfl
        rotate_left
        · simp only [Act.put, List.setIfInBounds_toArray, List.set_cons_zero, List.set_cons_succ, zi, zj]
          rfl
        refine zO (i := 2) (N := some 23) (v := ?_) (a' := ?_) #[true, true, true, false, false, false, false, false, false] rfl rfl (zC HT_.out (by kernel_rfl)) (fun _ _ _ h => h) (Or.inl ⟨by rfl, ?_⟩) ?_ ?_
        rotate_left
        · intro w'
          go_simp
          with_reducible rfl
        rotate_left
        · simp only [Act.put, List.setIfInBounds_toArray, List.set_cons_zero, List.set_cons_succ, zi, zj]
          rfl
        refine jD (i := 5) (N := some 26) (v := ?_) (a' := ?_) #[true, true, true, false, false, true, false, false, false] rfl rfl (qT HT_.out HW_.out (by kernel_rfl)) (fun _ _ _ h => h) (Or.inl ⟨by rfl, ?_⟩) hHeld ?_ ?_
        rotate_left
        · rintro w' ⟨s0, s1, s2⟩
          go_simp
          with_reducible rfl
        rotate_left
        · simp only [Act.put, List.setIfInBounds_toArray, List.set_cons_zero, List.set_cons_succ, zi, zj]
          rfl
        refine jD (i := 3) (N := some 24) (v := ?_) (a' := ?_) #[true, true, true, true, false, true, false, false, false] rfl rfl (qT HT_.out HW_.out (by kernel_rfl)) (fun _ _ _ h => h) (Or.inl ⟨by rfl, ?_⟩) hHeld ?_ ?_
        rotate_left
        · rintro w' ⟨s0, s1, s2⟩
          go_simp
          with_reducible rfl
        rotate_left
        · simp only [Act.put, List.setIfInBounds_toArray, List.set_cons_zero, List.set_cons_succ, zi, zj]
          rfl
        refine yT (i := 4) (N := some 25) #[true, true, true, true, true, true, false, false, false] rfl rfl (j7 HT_.out (by kernel_rfl)) (by decide) (fun K hK => ?_)
        refine yE Tryz.func56 (by kernel_rfl) rfl #[.agg #[.int .i64 t338, .slice Ao32 t339.length co32]] (by rfl) rfl rfl sqM ?_
        with_reducible refine (qm.calls k t338 _ _ t339 t344 _ ?side1 ?side2 A8.out).mono ?_
        (case side1 => exact sqC (Kd.zg HO341.out).2.2)
        (case side2 => exact (Kd.zg HO341.out).2.1)
        rintro e w35 ⟨v345, rfl, ho0, hb⟩
        refine ⟨_, rfl, ?_⟩
        have n0_ := Aside0.mk (Kd.zw (sqR HO337.out) (Kd.zQ ho0) hb)
        have n1_ := Aside0.mk (Kd.zw (sqR HO341.out) (Kd.zQ ho0) hb)
        have n2_ := Aside0.mk (Kd.zD (Kd.zP (Kd.zP ho0 (Kd.qt (sqR HO337.out))) (Kd.qt (sqR HO341.out))) (zh sqB))
        have n3_ := Aside0.mk (zd (g := gb333) (o := .cells #[.int .i64 0, .slice none 0 0] 24 (0, 0)) (sqK BK333.out) hb)
        have n4_ := Aside0.mk (zd (g := gb343) (o := .cells #[.int .i64 t338, .slice Ao32 t339.length co32] 24 (0, 0)) (sqK BK343.out) hb)
        have n5_ := Aside0.mk (zc sqB hb)
        clear HO337
        clear HO341
        clear BK333
        clear BK343
        clear HB
        have HO337 := n0_
        have HO341 := n1_
        have HO346 := n2_
        have BK333 := n3_
        have BK343 := n4_
        have HB := n5_
        clear n0_ n1_ n2_ n3_ n4_ n5_
        (try clear hb)
        (try clear hb2)
        (try clear hk)
        (try clear hi)
        (try clear ho0)
        obtain ⟨Ao36, co36, eo36⟩ := Kd.zK HO346.out
        (first | subst eo36 | (injection eo36 with f1_ f2_ f3_; have f4_ := f1_.symm; have f5_ := f3_.symm; clear f1_ f2_ f3_; subst f4_; subst f5_))
        refine hK.out _ _ ⟨(za BK343.out 0).trans rfl, (za BK343.out 1).trans rfl, (za (zd BKl.out HB.out) 0).trans rfl⟩ (fun hHeld => ?_)
        clear hK K
        refine vG (a' := ?_) ?_ ?_
        rotate_left
        · show Act.put _ (some 25) _ = _
          simp only [Act.put, List.setIfInBounds_toArray, List.set_cons_zero, List.set_cons_succ, zi, zj]
          rfl
        refine yT (i := 6) (N := some 27) #[true, true, true, true, true, true, true, false, false] rfl rfl (j7 HT_.out (by kernel_rfl)) (by decide) (fun K hK => ?_)
        refine yE Tryz.func23 (by kernel_rfl) rfl #[.slice Ao36 t344.length co36, .slice A1 l1.length c1] (by rfl) rfl rfl sqM ?_
        with_reducible refine (zr.calls k _ _ t344 _ _ l1 false _ ?side1 ?side2 ?side3 ?side4 A9.out).mono ?_
        (case side1 => exact sqC (Kd.zg HO346.out).2.2)
        (case side2 => exact (Kd.zg HO346.out).2.1)
        (case side3 => exact sqC (Kd.zt HR1.out HB.out))
        (case side4 => exact HC1.out)
        rintro e w' ⟨rfl, ⟨nd, rfl⟩⟩
        refine ⟨_, rfl, ?_⟩
        refine hK.out _ _ ⟨(za BK343.out 0).trans rfl, (za BK343.out 1).trans rfl, (za (zd BKl.out HB.out) 0).trans rfl⟩ (fun hHeld => ?_)
        clear hK K
        refine vG (a' := ?_) ?_ ?_
        rotate_left
        · show Act.put _ (some 27) _ = _
          simp only [Act.put, List.setIfInBounds_toArray, List.set_cons_zero, List.set_cons_succ, zi, zj]
          rfl
        refine zO (i := 7) (N := some 28) (v := ?_) (a' := ?_) #[true, true, true, true, true, true, true, true, false] rfl rfl (zC HT_.out (by kernel_rfl)) (fun _ _ _ h => h) (Or.inl ⟨by rfl, ?_⟩) ?_ ?_
        rotate_left
        · intro w'
          go_simp
          with_reducible rfl
        rotate_left
        · simp only [Act.put, List.setIfInBounds_toArray, List.set_cons_zero, List.set_cons_succ, zi, zj]
          rfl
        refine zO (i := 8) (N := some 29) (v := ?_) (a' := ?_) #[true, true, true, true, true, true, true, true, true] rfl rfl (zC HT_.out (by kernel_rfl)) (fun _ _ _ h => h) (Or.inl ⟨by rfl, ?_⟩) ?_ ?_
        rotate_left
        · intro w'
          go_simp
          with_reducible rfl
        rotate_left
        · simp only [Act.put, List.setIfInBounds_toArray, List.set_cons_zero, List.set_cons_succ, zi, zj]
          rfl
        refine vF (jK HT_.out (by kernel_rfl)) ?_
        have hcz37_0 : w35.cell? ⟨gb333, 0, none⟩ = some (.int .i64 0) := (za BK333.out 0).trans rfl
        have hcz37_1 : w35.cell? ⟨gb333, 1, none⟩ = some (.slice none 0 0) := (za BK333.out 1).trans rfl
        have hfz37_0 := zb BK333.out 0
        have hfz37_1 := zb BK333.out 1
        (try clear hcl)
        have hcl : World.cell? _ ⟨gl, 0, none⟩ = some (.slice A1 l1.length c1) := (za (zd BKl.out HB.out) 0).trans rfl
        try go_wp2
        refine bodyPost_ret (qz rfl _ _ gb333 24 #[.int .i64 0, .slice none 0 0] (0, 0) _ rfl (by refine sqK ?_; refine zF (cs := #[.int .i64 0, .slice none 0 0]) ?_ 1 _ rfl; refine sqK ?_; refine zF (cs := #[.int .i64 0, .slice none 0 0]) ?_ 0 _ rfl; refine sqK ?_; exact BK333.out) Tryz.underlying24 rfl (by kernel_rfl)) rfl ?_
        exact ⟨_, sqE, Kd.zD (base := wl.heap.size) (sqN) (zh HBl.out), zc HBl.out sqB⟩
    · replace c7 := Bool.eq_false_iff.mpr c7
      subst c7
      have H1 : (some (0, ([] : List Int), false)) = some (r1, r2, r3) := by rw [if_neg (show ¬ (false = true) by decide)] at H; exact H
      clear H
      have H := H1
      clear H1
      simp only [Option.some.injEq, Prod.mk.injEq] at H
      obtain ⟨rfl, rfl, rfl⟩ := H
      go_enter Tryz.func37, Tryz.ntmps37
      go_wp2_with (first
        | ((with_reducible refine zm (N := 3) rfl ?_); refine zq ?hg (N := 3) ?hd (cs := #[.slice A1 l1.length c1]) (t := 22) ?hr ?_; (case hd => rfl); (case hg => rfl); (case hr => exact sqG); intro gl hg wl hbox hb; have HBl := Aside0.mk hb; have BKl := Aside0.mk hbox; have nr_ := Aside0.mk (Kd.zt HR1.out hb); clear HR1 HB; have HR1 := nr_; clear nr_; have HB := Aside0.mk (Below.refl wl.heap.size wl); have hcl : wl.cell? ⟨gl, 0, none⟩ = some (.slice A1 l1.length c1) := (za BKl.out 0).trans rfl; clear hb hbox hg)
        | ((with_reducible refine zm (N := 4) rfl ?_); refine zq ?hg (N := 4) ?hd (cs := #[.int .i64 0, .slice none 0 0]) (t := 24) ?hr ?_; (case hd => rfl); (case hg => rfl); (case hr => exact sqG); intro gb333 hg w38 hbox hb; have n0_ := Aside0.mk (zc sqB hb); have n1_ := Aside0.mk (hbox); have n2_ := Aside0.mk ((sqS hg : wl.heap.size ≤ gb333)); have n3_ := Aside0.mk ((sqS hg : wl.heap.size ≤ gb333)); clear HB; have HB := n0_; have BK333 := n1_; have GW333 := n2_; have GE333 := n3_; clear n0_ n1_ n2_ n3_; clear hb hbox hg; (try clear hcl); have hcl : World.cell? _ ⟨gl, 0, none⟩ = some (.slice A1 l1.length c1) := (za (zd BKl.out HB.out) 0).trans rfl)
        | ((with_reducible refine ze (f := 19) rfl ?_); refine zv (some 10) rfl rfl Tryz.func19 (by kernel_rfl) rfl #[.int .i64 a0, .slice A1 l1.length c1] rfl sqM ?_; (with_reducible refine (zJ.calls k a0 _ _ l1 true _ ?side1 ?side2 A3.out).mono ?_); (case side1 => exact sqC (Kd.zt HR1.out HB.out)); (case side2 => exact HC1.out); rintro e w' ⟨rfl, ⟨nd, rfl⟩⟩; refine ⟨_, rfl, ?_⟩; (try (rw [qO w38]; generalize hq_ : World.drewN w38 _ = w38; have n0_ : Aside0 (w38.heap[gb333]? = some (.cells #[.int .i64 0, .slice none 0 0] 24 (0, 0))) := ⟨by rw [← hq_]; exact (sqK BK333.out)⟩; have n1_ : Aside0 (Below wl.heap.size wl w38) := ⟨by rw [← hq_]; exact sqB⟩; clear BK333 HB hq_; have BK333 := n0_; have HB := n1_; clear n0_ n1_; have hczqgb333_0 : w38.cell? ⟨gb333, 0, none⟩ = some (.int .i64 0) := (za BK333.out 0).trans rfl; have hfzqgb333_0 := zb BK333.out 0; have hczqgb333_1 : w38.cell? ⟨gb333, 1, none⟩ = some (.slice none 0 0) := (za BK333.out 1).trans rfl; have hfzqgb333_1 := zb BK333.out 1)); (try clear hcl); have hcl : World.cell? _ ⟨gl, 0, none⟩ = some (.slice A1 l1.length c1) := (za (zd BKl.out HB.out) 0).trans rfl)
        | ((with_reducible refine ze (f := 52) rfl ?_); refine zv (some 18) rfl rfl Tryz.func52 (by kernel_rfl) rfl #[.int .i64 a0, .slice Ao40 t335.length co40] rfl sqM ?_; (with_reducible refine (ql.calls k a0 _ _ t335 t338 t339 false _ ?side1 ?side2 A6.out).mono ?_); (case side1 => exact sqC (Kd.zg HO337.out).2.2); (case side2 => exact (Kd.zg HO337.out).2.1); rintro e w41 ⟨v340, rfl, ho0, hb⟩; refine ⟨_, rfl, ?_⟩; have n0_ := Aside0.mk (Kd.zw (sqR HO337.out) (Kd.zQ ho0) hb); have n1_ := Aside0.mk (Kd.zD (Kd.zP ho0 (Kd.qt (sqR HO337.out))) (zh sqB)); have n2_ := Aside0.mk (zd (g := gb333) (o := .cells #[.int .i64 0, .slice none 0 0] 24 (0, 0)) (sqK BK333.out) hb); have n3_ := Aside0.mk (zc sqB hb); clear HO337; clear BK333; clear HB; have HO337 := n0_; have HO341 := n1_; have BK333 := n2_; have HB := n3_; clear n0_ n1_ n2_ n3_; (try clear hb); (try clear hb2); (try clear hk); (try clear hi); (try clear ho0); (try clear hcl); have hcl : World.cell? _ ⟨gl, 0, none⟩ = some (.slice A1 l1.length c1) := (za (zd BKl.out HB.out) 0).trans rfl)
        | ((with_reducible refine zm (N := 6) rfl ?_); refine zq ?hg (N := 6) ?hd (cs := #[.int .i64 0, .slice none 0 0]) (t := 24) ?hr ?_; (case hd => rfl); (case hg => rfl); (case hr => exact sqG); intro gb343 hg w42 hbox hb; have n0_ := Aside0.mk (Kd.zx (sqR HO337.out) hb); have n1_ := Aside0.mk (Kd.zx (sqR HO341.out) hb); have n2_ := Aside0.mk (zd (g := gb333) (o := .cells #[.int .i64 0, .slice none 0 0] 24 (0, 0)) (sqK BK333.out) hb); have n3_ := Aside0.mk (zc sqB hb); have n4_ := Aside0.mk (hbox); have n5_ := Aside0.mk ((sqS hg : wl.heap.size ≤ gb343)); have n6_ := Aside0.mk ((sqS hg : wl.heap.size ≤ gb343)); have n7_ := Aside0.mk ((by rw [hg]; exact Nat.ne_of_lt (zU (g := gb333) (o := .cells #[.int .i64 0, .slice none 0 0] 24 (0, 0)) (sqK BK333.out)) : gb333 ≠ gb343)); have n8_ := Aside0.mk ((by rw [hg]; exact Nat.ne_of_gt (zU (g := gb333) (o := .cells #[.int .i64 0, .slice none 0 0] 24 (0, 0)) (sqK BK333.out)) : gb343 ≠ gb333)); clear HO337; clear HO341; clear BK333; clear HB; have HO337 := n0_; have HO341 := n1_; have BK333 := n2_; have HB := n3_; have BK343 := n4_; have GW343 := n5_; have GE343 := n6_; have NB333_343 := n7_; have NB343_333 := n8_; clear n0_ n1_ n2_ n3_ n4_ n5_ n6_ n7_ n8_; clear hb hbox hg; have hnb43 := NB343_333.out; have hnc43 := NB333_343.out; have hcz44_0 : w42.cell? ⟨gb343, 0, none⟩ = some (.int .i64 0) := (za BK343.out 0).trans rfl; have hcz44_1 : w42.cell? ⟨gb343, 1, none⟩ = some (.slice none 0 0) := (za BK343.out 1).trans rfl; have hfz44_0 := zb BK343.out 0; have hfz44_1 := zb BK343.out 1; obtain ⟨Ao45, co45, eo45⟩ := Kd.zK HO341.out; subst eo45; (try clear hcl); have hcl : World.cell? _ ⟨gl, 0, none⟩ = some (.slice A1 l1.length c1) := (za (zd BKl.out HB.out) 0).trans rfl))
      refine (vM (zM.q l1) _ _ (enters_of Tryz.func54 (by kernel_rfl) rfl) k a0 t335 _ (zM.pred l1 _ c1 gl _ (zd BKl.out sqB) (Kd.zt HR1.out sqB) HC1.out) A5.out).mono ?_
      rintro e w39 ⟨v336, rfl, ho0, hb⟩
      have n0_ := Aside0.mk (Kd.zD ho0 (zh sqB))
      have n1_ := Aside0.mk (zd (g := gb333) (o := .cells #[.int .i64 0, .slice none 0 0] 24 (0, 0)) (sqK BK333.out) hb)
      have n2_ := Aside0.mk (zc sqB hb)
      clear BK333
      clear HB
      have HO337 := n0_
      have BK333 := n1_
      have HB := n2_
      clear n0_ n1_ n2_
      (try clear hb)
      (try clear hb2)
      (try clear hk)
      (try clear hi)
      (try clear ho0)
      obtain ⟨Ao40, co40, eo40⟩ := Kd.zK HO337.out
      subst eo40
      (try clear hcl)
      have hcl : World.cell? _ ⟨gl, 0, none⟩ = some (.slice A1 l1.length c1) := (za (zd BKl.out HB.out) 0).trans rfl
      go_wp2_with (first
        | ((with_reducible refine zm (N := 4) rfl ?_); refine zq ?hg (N := 4) ?hd (cs := #[.int .i64 0, .slice none 0 0]) (t := 24) ?hr ?_; (case hd => rfl); (case hg => rfl); (case hr => exact sqG); intro gb333 hg w38 hbox hb; have n0_ := Aside0.mk (zc sqB hb); have n1_ := Aside0.mk (hbox); have n2_ := Aside0.mk ((sqS hg : wl.heap.size ≤ gb333)); have n3_ := Aside0.mk ((sqS hg : wl.heap.size ≤ gb333)); clear HB; have HB := n0_; have BK333 := n1_; have GW333 := n2_; have GE333 := n3_; clear n0_ n1_ n2_ n3_; clear hb hbox hg; (try clear hcl); have hcl : World.cell? _ ⟨gl, 0, none⟩ = some (.slice A1 l1.length c1) := (za (zd BKl.out HB.out) 0).trans rfl)
        | ((with_reducible refine ze (f := 19) rfl ?_); refine zv (some 10) rfl rfl Tryz.func19 (by kernel_rfl) rfl #[.int .i64 a0, .slice A1 l1.length c1] rfl sqM ?_; (with_reducible refine (zJ.calls k a0 _ _ l1 true _ ?side1 ?side2 A3.out).mono ?_); (case side1 => exact sqC (Kd.zt HR1.out HB.out)); (case side2 => exact HC1.out); rintro e w' ⟨rfl, ⟨nd, rfl⟩⟩; refine ⟨_, rfl, ?_⟩; (try (rw [qO w38]; generalize hq_ : World.drewN w38 _ = w38; have n0_ : Aside0 (w38.heap[gb333]? = some (.cells #[.int .i64 0, .slice none 0 0] 24 (0, 0))) := ⟨by rw [← hq_]; exact (sqK BK333.out)⟩; have n1_ : Aside0 (Below wl.heap.size wl w38) := ⟨by rw [← hq_]; exact sqB⟩; clear BK333 HB hq_; have BK333 := n0_; have HB := n1_; clear n0_ n1_; have hczqgb333_0 : w38.cell? ⟨gb333, 0, none⟩ = some (.int .i64 0) := (za BK333.out 0).trans rfl; have hfzqgb333_0 := zb BK333.out 0; have hczqgb333_1 : w38.cell? ⟨gb333, 1, none⟩ = some (.slice none 0 0) := (za BK333.out 1).trans rfl; have hfzqgb333_1 := zb BK333.out 1)); (try clear hcl); have hcl : World.cell? _ ⟨gl, 0, none⟩ = some (.slice A1 l1.length c1) := (za (zd BKl.out HB.out) 0).trans rfl)
        | ((with_reducible refine ze (f := 52) rfl ?_); refine zv (some 18) rfl rfl Tryz.func52 (by kernel_rfl) rfl #[.int .i64 a0, .slice Ao40 t335.length co40] rfl sqM ?_; (with_reducible refine (ql.calls k a0 _ _ t335 t338 t339 false _ ?side1 ?side2 A6.out).mono ?_); (case side1 => exact sqC (Kd.zg HO337.out).2.2); (case side2 => exact (Kd.zg HO337.out).2.1); rintro e w41 ⟨v340, rfl, ho0, hb⟩; refine ⟨_, rfl, ?_⟩; have n0_ := Aside0.mk (Kd.zw (sqR HO337.out) (Kd.zQ ho0) hb); have n1_ := Aside0.mk (Kd.zD (Kd.zP ho0 (Kd.qt (sqR HO337.out))) (zh sqB)); have n2_ := Aside0.mk (zd (g := gb333) (o := .cells #[.int .i64 0, .slice none 0 0] 24 (0, 0)) (sqK BK333.out) hb); have n3_ := Aside0.mk (zc sqB hb); clear HO337; clear BK333; clear HB; have HO337 := n0_; have HO341 := n1_; have BK333 := n2_; have HB := n3_; clear n0_ n1_ n2_ n3_; (try clear hb); (try clear hb2); (try clear hk); (try clear hi); (try clear ho0); (try clear hcl); have hcl : World.cell? _ ⟨gl, 0, none⟩ = some (.slice A1 l1.length c1) := (za (zd BKl.out HB.out) 0).trans rfl)
        | ((with_reducible refine zm (N := 6) rfl ?_); refine zq ?hg (N := 6) ?hd (cs := #[.int .i64 0, .slice none 0 0]) (t := 24) ?hr ?_; (case hd => rfl); (case hg => rfl); (case hr => exact sqG); intro gb343 hg w42 hbox hb; have n0_ := Aside0.mk (Kd.zx (sqR HO337.out) hb); have n1_ := Aside0.mk (Kd.zx (sqR HO341.out) hb); have n2_ := Aside0.mk (zd (g := gb333) (o := .cells #[.int .i64 0, .slice none 0 0] 24 (0, 0)) (sqK BK333.out) hb); have n3_ := Aside0.mk (zc sqB hb); have n4_ := Aside0.mk (hbox); have n5_ := Aside0.mk ((sqS hg : wl.heap.size ≤ gb343)); have n6_ := Aside0.mk ((sqS hg : wl.heap.size ≤ gb343)); have n7_ := Aside0.mk ((by rw [hg]; exact Nat.ne_of_lt (zU (g := gb333) (o := .cells #[.int .i64 0, .slice none 0 0] 24 (0, 0)) (sqK BK333.out)) : gb333 ≠ gb343)); have n8_ := Aside0.mk ((by rw [hg]; exact Nat.ne_of_gt (zU (g := gb333) (o := .cells #[.int .i64 0, .slice none 0 0] 24 (0, 0)) (sqK BK333.out)) : gb343 ≠ gb333)); clear HO337; clear HO341; clear BK333; clear HB; have HO337 := n0_; have HO341 := n1_; have BK333 := n2_; have HB := n3_; have BK343 := n4_; have GW343 := n5_; have GE343 := n6_; have NB333_343 := n7_; have NB343_333 := n8_; clear n0_ n1_ n2_ n3_ n4_ n5_ n6_ n7_ n8_; clear hb hbox hg; have hnb43 := NB343_333.out; have hnc43 := NB333_343.out; have hcz44_0 : w42.cell? ⟨gb343, 0, none⟩ = some (.int .i64 0) := (za BK343.out 0).trans rfl; have hcz44_1 : w42.cell? ⟨gb343, 1, none⟩ = some (.slice none 0 0) := (za BK343.out 1).trans rfl; have hfz44_0 := zb BK343.out 0; have hfz44_1 := zb BK343.out 1; obtain ⟨Ao45, co45, eo45⟩ := Kd.zK HO341.out; subst eo45; (try clear hcl); have hcl : World.cell? _ ⟨gl, 0, none⟩ = some (.slice A1 l1.length c1) := (za (zd BKl.out HB.out) 0).trans rfl))
      have n0_ : Aside0 (Kd.R (Kd.int .i64) 3 ((w42.setCell ⟨gb343, 0, none⟩ (.int .i64 t338)).setCell ⟨gb343, 1, none⟩ (.slice Ao45 t339.length co45)) wl.heap.size (fun k_ => some k_ ≠ (.slice Ao45 t339.length co45 : Value).ownBlock) (.slice Ao40 t335.length co40) t335) := ⟨by refine sqR ?_; exact Kd.zn (Kd.zp (p := ⟨gb343, 1, none⟩) (Kd.zp (p := ⟨gb343, 0, none⟩) (Kd.zz HO337.out BK343.out (by decide)) (fun _ hk => hk.2) (.int .i64 t338)) (fun _ hk => hk.2) (.slice Ao45 t339.length co45)) (fun _ hk => hk.1.2)⟩
      have n1_ : Aside0 (Kd.R (Kd.int .i64) 3 ((w42.setCell ⟨gb343, 0, none⟩ (.int .i64 t338)).setCell ⟨gb343, 1, none⟩ (.slice Ao45 t339.length co45)) wl.heap.size (fun k_ => some k_ ≠ (.slice Ao40 t335.length co40 : Value).ownBlock) (.slice Ao45 t339.length co45) t339) := ⟨by refine sqR ?_; exact Kd.zn (Kd.zp (p := ⟨gb343, 1, none⟩) (Kd.zp (p := ⟨gb343, 0, none⟩) (Kd.zz HO341.out BK343.out (by decide)) (fun _ hk => hk.2) (.int .i64 t338)) (fun _ hk => hk.2) (.slice Ao45 t339.length co45)) (fun _ hk => hk.1.2)⟩
      have n2_ : Aside0 (((w42.setCell ⟨gb343, 0, none⟩ (.int .i64 t338)).setCell ⟨gb343, 1, none⟩ (.slice Ao45 t339.length co45)).heap[gb333]? = some (.cells #[.int .i64 0, .slice none 0 0] 24 (0, 0))) := ⟨by refine sqK ?_; refine z6 ?_ NB333_343.out _; refine sqK ?_; refine z6 ?_ NB333_343.out _; refine sqK ?_; exact BK333.out⟩
      have n3_ : Aside0 (((w42.setCell ⟨gb343, 0, none⟩ (.int .i64 t338)).setCell ⟨gb343, 1, none⟩ (.slice Ao45 t339.length co45)).heap[gb343]? = some (.cells #[.int .i64 t338, .slice Ao45 t339.length co45] 24 (0, 0))) := ⟨by refine sqK ?_; refine zF (cs := #[.int .i64 t338, .slice none 0 0]) ?_ 1 _ rfl; refine sqK ?_; refine zF (cs := #[.int .i64 0, .slice none 0 0]) ?_ 0 _ rfl; refine sqK ?_; exact BK343.out⟩
      have n4_ : Aside0 (Below wl.heap.size wl ((w42.setCell ⟨gb343, 0, none⟩ (.int .i64 t338)).setCell ⟨gb343, 1, none⟩ (.slice Ao45 t339.length co45))) := ⟨sqB⟩
      (try clear HO337)
      (try clear HO341)
      (try clear BK333)
      (try clear BK343)
      (try clear HB)
      generalize ((w42.setCell ⟨gb343, 0, none⟩ (.int .i64 t338)).setCell ⟨gb343, 1, none⟩ (.slice Ao45 t339.length co45)) = w46 at n0_ n1_ n2_ n3_ n4_ ⊢
      have HO337 := n0_
      have HO341 := n1_
      have BK333 := n2_
      have BK343 := n3_
      have HB := n4_
      clear n0_ n1_ n2_ n3_ n4_
      have n0_ := Aside0.mk (Kd.jL HO337.out)
      have n1_ := Aside0.mk (Kd.jL HO341.out)
      have n2_ := Aside0.mk (jj BK333.out)
      have n3_ := Aside0.mk (jj BK343.out)
      have n4_ := Aside0.mk (qg HB.out)
      clear HO337
      clear HO341
      clear BK333
      clear BK343
      clear HB
      have HO337 := n0_
      have HO341 := n1_
      have BK333 := n2_
      have BK343 := n3_
      have HB := n4_
      clear n0_ n1_ n2_ n3_ n4_
      refine jW (n := 9) (S := fun w' => True) (ds := []) #[false, false, false, false, false, false, false, false, false] (by kernel_rfl) rfl rfl trivial (fun hHeld => ?_); refine ja zW.zbj zW.zak (fun HT_ HW_ => ?_)
      generalize w46.drew = w47 at HO337 HO341 BK333 BK343 HB hHeld ⊢
      refine zO (i := 0) (N := some 21) (v := ?_) (a' := ?_) #[true, false, false, false, false, false, false, false, false] rfl rfl (zC HT_.out (by kernel_rfl)) (fun _ _ _ h => h) (Or.inl ⟨by rfl, ?_⟩) ?_ ?_
      rotate_left
      · intro w'
        go_simp
        with_reducible rfl
      rotate_left
      · simp only [Act.put, List.setIfInBounds_toArray, List.set_cons_zero, List.set_cons_succ, zi, zj]
        rfl
      refine zO (i := 1) (N := some 22) (v := ?_) (a' := ?_) #[true, true, false, false, false, false, false, false, false] rfl rfl (zC HT_.out (by kernel_rfl)) (fun _ _ _ h => h) (Or.inl ⟨by rfl, ?_⟩) ?_ ?_
      rotate_left
      · intro w'
        go_simp
        with_reducible rfl
      rotate_left
      · simp only [Act.put, List.setIfInBounds_toArray, List.set_cons_zero, List.set_cons_succ, zi, zj]
        rfl
      refine zO (i := 2) (N := some 23) (v := ?_) (a' := ?_) #[true, true, true, false, false, false, false, false, false] rfl rfl (zC HT_.out (by kernel_rfl)) (fun _ _ _ h => h) (Or.inl ⟨by rfl, ?_⟩) ?_ ?_
      rotate_left
      · intro w'
        go_simp
        with_reducible rfl
      rotate_left
      · simp only [Act.put, List.setIfInBounds_toArray, List.set_cons_zero, List.set_cons_succ, zi, zj]
        rfl
      refine zO (i := 3) (N := some 24) (v := undef) (a' := ?_) #[true, true, true, true, false, false, false, false, false] rfl rfl (zC HT_.out (by kernel_rfl)) (fun _ _ _ h => h) (Or.inr ⟨by rfl, rfl⟩) ?_ ?_
      rotate_left
      · simp only [Act.put, List.setIfInBounds_toArray, List.set_cons_zero, List.set_cons_succ, zi, zj]
        rfl
      refine zO (i := 4) (N := some 25) (v := undef) (a' := ?_) #[true, true, true, true, true, false, false, false, false] rfl rfl (zC HT_.out (by kernel_rfl)) (fun _ _ _ h => h) (Or.inr ⟨by rfl, rfl⟩) ?_ ?_
      rotate_left
      · simp only [Act.put, List.setIfInBounds_toArray, List.set_cons_zero, List.set_cons_succ, zi, zj]
        rfl
      refine zO (i := 5) (N := some 26) (v := undef) (a' := ?_) #[true, true, true, true, true, true, false, false, false] rfl rfl (zC HT_.out (by kernel_rfl)) (fun _ _ _ h => h) (Or.inr ⟨by rfl, rfl⟩) ?_ ?_
      rotate_left
      · simp only [Act.put, List.setIfInBounds_toArray, List.set_cons_zero, List.set_cons_succ, zi, zj]
        rfl
      refine zO (i := 6) (N := some 27) (v := undef) (a' := ?_) #[true, true, true, true, true, true, true, false, false] rfl rfl (zC HT_.out (by kernel_rfl)) (fun _ _ _ h => h) (Or.inr ⟨by rfl, rfl⟩) ?_ ?_
      rotate_left
      · simp only [Act.put, List.setIfInBounds_toArray, List.set_cons_zero, List.set_cons_succ, zi, zj]
        rfl
      refine zO (i := 7) (N := some 28) (v := undef) (a' := ?_) #[true, true, true, true, true, true, true, true, false] rfl rfl (zC HT_.out (by kernel_rfl)) (fun _ _ _ h => h) (Or.inr ⟨by rfl, rfl⟩) ?_ ?_
      rotate_left
      · simp only [Act.put, List.setIfInBounds_toArray, List.set_cons_zero, List.set_cons_succ, zi, zj]
        rfl
      refine zO (i := 8) (N := some 29) (v := ?_) (a' := ?_) #[true, true, true, true, true, true, true, true, true] rfl rfl (zC HT_.out (by kernel_rfl)) (fun _ _ _ h => h) (Or.inl ⟨by rfl, ?_⟩) ?_ ?_
      rotate_left
      · intro w'
        go_simp
        with_reducible rfl
      rotate_left
      · simp only [Act.put, List.setIfInBounds_toArray, List.set_cons_zero, List.set_cons_succ, zi, zj]
        rfl
      refine vF (jK HT_.out (by kernel_rfl)) ?_
      have hcz48_0 : w47.cell? ⟨gb333, 0, none⟩ = some (.int .i64 0) := (za BK333.out 0).trans rfl
      have hcz48_1 : w47.cell? ⟨gb333, 1, none⟩ = some (.slice none 0 0) := (za BK333.out 1).trans rfl
      have hfz48_0 := zb BK333.out 0
      have hfz48_1 := zb BK333.out 1
      (try clear hcl)
      have hcl : World.cell? _ ⟨gl, 0, none⟩ = some (.slice A1 l1.length c1) := (za (zd BKl.out HB.out) 0).trans rfl
      try go_wp2
      refine bodyPost_ret (qz rfl _ _ gb333 24 #[.int .i64 0, .slice none 0 0] (0, 0) _ rfl (by refine sqK ?_; refine zF (cs := #[.int .i64 0, .slice none 0 0]) ?_ 1 _ rfl; refine sqK ?_; refine zF (cs := #[.int .i64 0, .slice none 0 0]) ?_ 0 _ rfl; refine sqK ?_; exact BK333.out) Tryz.underlying24 rfl (by kernel_rfl)) rfl ?_
      exact ⟨_, sqE, Kd.zD (base := wl.heap.size) (sqN) (zh HBl.out), zc HBl.out sqB⟩
  · replace c4 := Bool.eq_false_iff.mpr c4
    subst c4
    have H1 : (some (0, ([] : List Int), false)) = some (r1, r2, r3) := by rw [if_neg (show ¬ (false = true) by decide)] at H; exact H
    clear H
    have H := H1
    clear H1
    simp only [Option.some.injEq, Prod.mk.injEq] at H
    obtain ⟨rfl, rfl, rfl⟩ := H
    go_enter Tryz.func37, Tryz.ntmps37
    go_wp2_with (first
      | ((with_reducible refine zm (N := 3) rfl ?_); refine zq ?hg (N := 3) ?hd (cs := #[.slice A1 l1.length c1]) (t := 22) ?hr ?_; (case hd => rfl); (case hg => rfl); (case hr => exact sqG); intro gl hg wl hbox hb; have HBl := Aside0.mk hb; have BKl := Aside0.mk hbox; have nr_ := Aside0.mk (Kd.zt HR1.out hb); clear HR1 HB; have HR1 := nr_; clear nr_; have HB := Aside0.mk (Below.refl wl.heap.size wl); have hcl : wl.cell? ⟨gl, 0, none⟩ = some (.slice A1 l1.length c1) := (za BKl.out 0).trans rfl; clear hb hbox hg)
      | ((with_reducible refine zm (N := 4) rfl ?_); refine zq ?hg (N := 4) ?hd (cs := #[.int .i64 0, .slice none 0 0]) (t := 24) ?hr ?_; (case hd => rfl); (case hg => rfl); (case hr => exact sqG); intro gb333 hg w49 hbox hb; have n0_ := Aside0.mk (zc sqB hb); have n1_ := Aside0.mk (hbox); have n2_ := Aside0.mk ((sqS hg : wl.heap.size ≤ gb333)); have n3_ := Aside0.mk ((sqS hg : wl.heap.size ≤ gb333)); clear HB; have HB := n0_; have BK333 := n1_; have GW333 := n2_; have GE333 := n3_; clear n0_ n1_ n2_ n3_; clear hb hbox hg; (try clear hcl); have hcl : World.cell? _ ⟨gl, 0, none⟩ = some (.slice A1 l1.length c1) := (za (zd BKl.out HB.out) 0).trans rfl)
      | ((with_reducible refine ze (f := 19) rfl ?_); refine zv (some 10) rfl rfl Tryz.func19 (by kernel_rfl) rfl #[.int .i64 a0, .slice A1 l1.length c1] rfl sqM ?_; (with_reducible refine (zJ.calls k a0 _ _ l1 false _ ?side1 ?side2 A3.out).mono ?_); (case side1 => exact sqC (Kd.zt HR1.out HB.out)); (case side2 => exact HC1.out); rintro e w' ⟨rfl, ⟨nd, rfl⟩⟩; refine ⟨_, rfl, ?_⟩; (try (rw [qO w49]; generalize hq_ : World.drewN w49 _ = w49; have n0_ : Aside0 (w49.heap[gb333]? = some (.cells #[.int .i64 0, .slice none 0 0] 24 (0, 0))) := ⟨by rw [← hq_]; exact (sqK BK333.out)⟩; have n1_ : Aside0 (Below wl.heap.size wl w49) := ⟨by rw [← hq_]; exact sqB⟩; clear BK333 HB hq_; have BK333 := n0_; have HB := n1_; clear n0_ n1_; have hczqgb333_0 : w49.cell? ⟨gb333, 0, none⟩ = some (.int .i64 0) := (za BK333.out 0).trans rfl; have hfzqgb333_0 := zb BK333.out 0; have hczqgb333_1 : w49.cell? ⟨gb333, 1, none⟩ = some (.slice none 0 0) := (za BK333.out 1).trans rfl; have hfzqgb333_1 := zb BK333.out 1)); have hcz50_0 : w49.cell? ⟨gb333, 0, none⟩ = some (.int .i64 0) := (za BK333.out 0).trans rfl; have hcz50_1 : w49.cell? ⟨gb333, 1, none⟩ = some (.slice none 0 0) := (za BK333.out 1).trans rfl; have hfz50_0 := zb BK333.out 0; have hfz50_1 := zb BK333.out 1; (try clear hcl); have hcl : World.cell? _ ⟨gl, 0, none⟩ = some (.slice A1 l1.length c1) := (za (zd BKl.out HB.out) 0).trans rfl))
    refine bodyPost_ret (qz rfl _ _ gb333 24 #[.int .i64 0, .slice none 0 0] (0, 0) _ rfl (by refine sqK ?_; refine zF (cs := #[.int .i64 0, .slice none 0 0]) ?_ 1 _ rfl; refine sqK ?_; refine zF (cs := #[.int .i64 0, .slice none 0 0]) ?_ 0 _ rfl; refine sqK ?_; exact BK333.out) Tryz.underlying24 rfl (by kernel_rfl)) rfl ?_
    exact ⟨_, sqE, Kd.zD (base := wl.heap.size) (sqN) (zh HBl.out), zc HBl.out sqB⟩
end Go.Proofs.YteggmbhcnhbamaaGreat.F
end
section
namespace Go.Proofs.YteggmbhcnhbamaaGreat.F
open Go.RowKit Go.Proofs.YteggmbhcnhbamaaGreatW.PrintWords Go.Proofs.YteggmbhcnhbamaaGreatW.PrintLast Go.Proofs.YteggmbhcnhbamaaGreatW.PrintMore
attribute [local go_sem] jG jJ jZ jV jr jq jF jI   -- for this text's walks alone
set_option linter.unusedVariables false
set_option linter.unusedSimpArgs false

def qR.f (k : Nat) (a0 : Int) (l1 : List Int) : Option (Int × List Int × Bool) := (zJ.f k a0 l1).bind fun t399 => (if t399 = true then ((zI.f k a0 l1).bind fun t400 => ((zW.f k a0 t400).bind fun bt403 => ((qJ.f k bt403.1 bt403.2.1).bind fun bt409 => (if bt403.2.2 = true then ((qF.f k bt409.1 bt409.2).bind fun t414 => ((zr.f k t414 l1).bind fun t417 => (if t417 = true then (some (bt409.1, bt409.2, true)) else (some (0, ([] : List Int), false))))) else (some (0, ([] : List Int), false)))))) else (some (0, ([] : List Int), false)))
theorem qR.calls (k : Nat) (a0 : Int) (A1 : Option Addr) (c1 : Nat) (l1 : List Int) (r1 : Int) (r2 : List Int) (r3 : Bool) (w : World) (hr1 : Kd.C (Kd.int .i64) w A1 l1.length l1) (hc1 : l1.length ≤ c1) (h : qR.f k a0 l1 = some (r1, r2, r3)) :
  Calls Tryz.prog 21 #[.int .i64 a0, .slice A1 l1.length c1] w fun e w' => ∃ v1_ : Value, e = .returned (.tuple #[.agg #[.int .i64 r1, v1_], .bool r3]) ∧ Kd.R (Kd.int .i64) 3 w' w.heap.size (fun _ => True) v1_ r2 ∧ Below w.heap.size w w' := by
 have hu24 := Tryz.underlying24
 have HR1 := Aside0.mk hr1
 have HC1 := Aside0.mk hc1
 clear hr1 hc1
 have HB := Aside0.mk (Below.refl w.heap.size w)
 have H : ((zJ.f k a0 l1).bind fun t399 => (if t399 = true then ((zI.f k a0 l1).bind fun t400 => ((zW.f k a0 t400).bind fun bt403 => ((qJ.f k bt403.1 bt403.2.1).bind fun bt409 => (if bt403.2.2 = true then ((qF.f k bt409.1 bt409.2).bind fun t414 => ((zr.f k t414 l1).bind fun t417 => (if t417 = true then (some (bt409.1, bt409.2, true)) else (some (0, ([] : List Int), false))))) else (some (0, ([] : List Int), false)))))) else (some (0, ([] : List Int), false)))) = some (r1, r2, r3) := h
 clear h
 replace H := Option.bind_eq_some_iff.mp H
 obtain ⟨t399, A30, H⟩ := H
 replace H : (if t399 = true then ((zI.f k a0 l1).bind fun t400 => ((zW.f k a0 t400).bind fun bt403 => ((qJ.f k bt403.1 bt403.2.1).bind fun bt409 => (if bt403.2.2 = true then ((qF.f k bt409.1 bt409.2).bind fun t414 => ((zr.f k t414 l1).bind fun t417 => (if t417 = true then (some (bt409.1, bt409.2, true)) else (some (0, ([] : List Int), false))))) else (some (0, ([] : List Int), false)))))) else (some (0, ([] : List Int), false))) = some (r1, r2, r3) := H
 have A3 := Aside0.mk A30
 clear A30
 by_cases c4 : t399 = true
 ·subst c4
  have H1 : ((zI.f k a0 l1).bind fun t400 => ((zW.f k a0 t400).bind fun bt403 => ((qJ.f k bt403.1 bt403.2.1).bind fun bt409 => (if bt403.2.2 = true then ((qF.f k bt409.1 bt409.2).bind fun t414 => ((zr.f k t414 l1).bind fun t417 => (if t417 = true then (some (bt409.1, bt409.2, true)) else (some (0, ([] : List Int), false))))) else (some (0, ([] : List Int), false)))))) = some (r1, r2, r3) := by rw [if_pos rfl] at H; exact H
  clear H
  have H := H1
  clear H1
  replace H := Option.bind_eq_some_iff.mp H
  obtain ⟨t400, A50, H⟩ := H
  replace H : ((zW.f k a0 t400).bind fun bt403 => ((qJ.f k bt403.1 bt403.2.1).bind fun bt409 => (if bt403.2.2 = true then ((qF.f k bt409.1 bt409.2).bind fun t414 => ((zr.f k t414 l1).bind fun t417 => (if t417 = true then (some (bt409.1, bt409.2, true)) else (some (0, ([] : List Int), false))))) else (some (0, ([] : List Int), false))))) = some (r1, r2, r3) := H
  have A5 := Aside0.mk A50
  clear A50
  replace H := Option.bind_eq_some_iff.mp H
  obtain ⟨⟨t403, t404, t407⟩, A60, H⟩ := H
  replace H : ((qJ.f k t403 t404).bind fun bt409 => (if t407 = true then ((qF.f k bt409.1 bt409.2).bind fun t414 => ((zr.f k t414 l1).bind fun t417 => (if t417 = true then (some (bt409.1, bt409.2, true)) else (some (0, ([] : List Int), false))))) else (some (0, ([] : List Int), false)))) = some (r1, r2, r3) := H
  have A6 := Aside0.mk A60
  clear A60
  replace H := Option.bind_eq_some_iff.mp H
  obtain ⟨⟨t409, t410⟩, A70, H⟩ := H
  replace H : (if t407 = true then ((qF.f k t409 t410).bind fun t414 => ((zr.f k t414 l1).bind fun t417 => (if t417 = true then (some (t409, t410, true)) else (some (0, ([] : List Int), false))))) else (some (0, ([] : List Int), false))) = some (r1, r2, r3) := H
  have A7 := Aside0.mk A70
  clear A70
  by_cases c8 : t407 = true
  ·subst c8
   have H1 : ((qF.f k t409 t410).bind fun t414 => ((zr.f k t414 l1).bind fun t417 => (if t417 = true then (some (t409, t410, true)) else (some (0, ([] : List Int), false))))) = some (r1, r2, r3) := by rw [if_pos rfl] at H; exact H
   clear H
   have H := H1
   clear H1
   replace H := Option.bind_eq_some_iff.mp H
   obtain ⟨t414, A90, H⟩ := H
   replace H : ((zr.f k t414 l1).bind fun t417 => (if t417 = true then (some (t409, t410, true)) else (some (0, ([] : List Int), false)))) = some (r1, r2, r3) := H
   have A9 := Aside0.mk A90
   clear A90
   replace H := Option.bind_eq_some_iff.mp H
   obtain ⟨t417, A100, H⟩ := H
   replace H : (if t417 = true then (some (t409, t410, true)) else (some (0, ([] : List Int), false))) = some (r1, r2, r3) := H
   have A10 := Aside0.mk A100
   clear A100
   by_cases c11 : t417 = true
   ·subst c11
    have H1 : (some (t409, t410, true)) = some (r1, r2, r3) := by rw [if_pos rfl] at H; exact H
    clear H
    have H := H1
    clear H1
    simp only [Option.some.injEq, Prod.mk.injEq] at H
    obtain ⟨rfl, rfl, rfl⟩ := H
    go_enter Tryz.func21, Tryz.ntmps21
    go_wp2_with (first | ((with_reducible refine zm (N := 4) rfl ?_); refine zq ?hg (N := 4) ?hd (cs := #[.int .i64 0, .slice none 0 0]) (t := 24) ?hr ?_; (case hd => rfl); (case hg => rfl); (case hr => exact sqG); intro gb398 hg w12 hbox hb; have n0_ := Aside0.mk (zc sqB hb); have n1_ := Aside0.mk (hbox); have n2_ := Aside0.mk ((sqS hg : w.heap.size ≤ gb398)); have n3_ := Aside0.mk ((sqS hg : w.heap.size ≤ gb398)); clear HB; have HB := n0_; have BK398 := n1_; have GW398 := n2_; have GE398 := n3_; clear n0_ n1_ n2_ n3_; clear hb hbox hg) | ((with_reducible refine ze (f := 19) rfl ?_); refine zv (some 11) rfl rfl Tryz.func19 (by kernel_rfl) rfl #[.int .i64 a0, .slice A1 l1.length c1] rfl sqM ?_; (with_reducible refine (zJ.calls k a0 _ _ l1 true _ ?side1 ?side2 A3.out).mono ?_); (case side1 => exact sqC (Kd.zt HR1.out HB.out)); (case side2 => exact HC1.out); rintro e w' ⟨rfl, ⟨nd, rfl⟩⟩; refine ⟨_, rfl, ?_⟩; (try (rw [qO w12]; generalize hq_ : World.drewN w12 _ = w12; have n0_ : Aside0 (w12.heap[gb398]? = some (.cells #[.int .i64 0, .slice none 0 0] 24 (0, 0))) := ⟨by rw [← hq_]; exact (sqK BK398.out)⟩; have n1_ : Aside0 (Below w.heap.size w w12) := ⟨by rw [← hq_]; exact sqB⟩; clear BK398 HB hq_; have BK398 := n0_; have HB := n1_; clear n0_ n1_; have hczqgb398_0 : w12.cell? ⟨gb398, 0, none⟩ = some (.int .i64 0) := (za BK398.out 0).trans rfl; have hfzqgb398_0 := zb BK398.out 0; have hczqgb398_1 : w12.cell? ⟨gb398, 1, none⟩ = some (.slice none 0 0) := (za BK398.out 1).trans rfl; have hfzqgb398_1 := zb BK398.out 1))) | ((with_reducible refine ze (f := 38) rfl ?_); refine zv (some 18) rfl rfl Tryz.func38 (by kernel_rfl) rfl #[.int .i64 a0, .slice A1 l1.length c1] rfl sqM ?_; (with_reducible refine (zI.calls k a0 _ _ l1 t400 _ ?side1 ?side2 A5.out).mono ?_); (case side1 => exact sqC (Kd.zt HR1.out HB.out)); (case side2 => exact HC1.out); rintro e w13 ⟨v401, rfl, ho0, hb⟩; refine ⟨_, rfl, ?_⟩; have n0_ := Aside0.mk (Kd.zD ho0 (zh sqB)); have n1_ := Aside0.mk (zd (g := gb398) (o := .cells #[.int .i64 0, .slice none 0 0] 24 (0, 0)) (sqK BK398.out) hb); have n2_ := Aside0.mk (zc sqB hb); clear BK398; clear HB; have HO402 := n0_; have BK398 := n1_; have HB := n2_; clear n0_ n1_ n2_; (try clear hb); (try clear hb2); (try clear hk); (try clear hi); (try clear ho0); obtain ⟨Ao14, co14, eo14⟩ := Kd.zK HO402.out; subst eo14) | ((with_reducible refine ze (f := 37) rfl ?_); refine zv (some 19) rfl rfl Tryz.func37 (by kernel_rfl) rfl #[.int .i64 a0, .slice Ao14 t400.length co14] rfl sqM ?_; (with_reducible refine (zW.calls k a0 _ _ t400 t403 t404 true _ ?side1 ?side2 A6.out).mono ?_); (case side1 => exact sqC (Kd.zg HO402.out).2.2); (case side2 => exact (Kd.zg HO402.out).2.1); rintro e w15 ⟨v405, rfl, ho0, hb⟩; refine ⟨_, rfl, ?_⟩; have n0_ := Aside0.mk (Kd.zw (sqR HO402.out) (Kd.zQ ho0) hb); have n1_ := Aside0.mk (Kd.zD (Kd.zP ho0 (Kd.qt (sqR HO402.out))) (zh sqB)); have n2_ := Aside0.mk (zd (g := gb398) (o := .cells #[.int .i64 0, .slice none 0 0] 24 (0, 0)) (sqK BK398.out) hb); have n3_ := Aside0.mk (zc sqB hb); clear HO402; clear BK398; clear HB; have HO402 := n0_; have HO406 := n1_; have BK398 := n2_; have HB := n3_; clear n0_ n1_ n2_ n3_; (try clear hb); (try clear hb2); (try clear hk); (try clear hi); (try clear ho0)) | ((with_reducible refine zm (N := 6) rfl ?_); refine zq ?hg (N := 6) ?hd (cs := #[.int .i64 0, .slice none 0 0]) (t := 24) ?hr ?_; (case hd => rfl); (case hg => rfl); (case hr => exact sqG); intro gb408 hg w16 hbox hb; have n0_ := Aside0.mk (Kd.zx (sqR HO402.out) hb); have n1_ := Aside0.mk (Kd.zx (sqR HO406.out) hb); have n2_ := Aside0.mk (zd (g := gb398) (o := .cells #[.int .i64 0, .slice none 0 0] 24 (0, 0)) (sqK BK398.out) hb); have n3_ := Aside0.mk (zc sqB hb); have n4_ := Aside0.mk (hbox); have n5_ := Aside0.mk ((sqS hg : w.heap.size ≤ gb408)); have n6_ := Aside0.mk ((sqS hg : w.heap.size ≤ gb408)); have n7_ := Aside0.mk ((by rw [hg]; exact Nat.ne_of_lt (zU (g := gb398) (o := .cells #[.int .i64 0, .slice none 0 0] 24 (0, 0)) (sqK BK398.out)) : gb398 ≠ gb408)); have n8_ := Aside0.mk ((by rw [hg]; exact Nat.ne_of_gt (zU (g := gb398) (o := .cells #[.int .i64 0, .slice none 0 0] 24 (0, 0)) (sqK BK398.out)) : gb408 ≠ gb398)); clear HO402; clear HO406; clear BK398; clear HB; have HO402 := n0_; have HO406 := n1_; have BK398 := n2_; have HB := n3_; have BK408 := n4_; have GW408 := n5_; have GE408 := n6_; have NB398_408 := n7_; have NB408_398 := n8_; clear n0_ n1_ n2_ n3_ n4_ n5_ n6_ n7_ n8_; clear hb hbox hg; have hnb17 := NB408_398.out; have hnc17 := NB398_408.out; have hcz18_0 : w16.cell? ⟨gb408, 0, none⟩ = some (.int .i64 0) := (za BK408.out 0).trans rfl; have hcz18_1 : w16.cell? ⟨gb408, 1, none⟩ = some (.slice none 0 0) := (za BK408.out 1).trans rfl; have hfz18_0 := zb BK408.out 0; have hfz18_1 := zb BK408.out 1; obtain ⟨Ao19, co19, eo19⟩ := Kd.zK HO406.out; subst eo19) | ((with_reducible refine ze (f := 39) rfl ?_); refine zv (some 23) rfl rfl Tryz.func39 (by kernel_rfl) rfl #[.agg #[.int .i64 t403, .slice Ao19 t404.length co19]] rfl sqM ?_; (with_reducible refine (qJ.calls k t403 _ _ t404 t409 t410 _ ?side1 ?side2 A7.out).mono ?_); (case side1 => refine (Kd.zg (e := 3) (base := w.heap.size) (ok := fun k_ => (True ∧ some k_ ≠ (.slice Ao14 t400.length co14 : Value).ownBlock)) (n := t404.length) (c := co19) ?_).2.2; exact (by refine sqR ?_; exact (Kd.zn (Kd.zp (p := ⟨gb408, 1, none⟩) (Kd.zp (p := ⟨gb408, 0, none⟩) (Kd.zz HO406.out BK408.out (by decide)) (fun _ hk => hk.2) (.int .i64 t403)) (fun _ hk => hk.2) (.slice Ao19 t404.length co19)) (fun _ h_ => h_.1)))); (case side2 => exact (Kd.zg HO406.out).2.1); rintro e w20 ⟨v411, rfl, ho0, hb⟩; refine ⟨_, rfl, ?_⟩; have n0_ := Aside0.mk (Kd.zw (by refine sqR ?_; exact (Kd.zn (Kd.zp (p := ⟨gb408, 1, none⟩) (Kd.zp (p := ⟨gb408, 0, none⟩) (Kd.zz HO402.out BK408.out (by decide)) (fun _ hk => hk.2) (.int .i64 t403)) (fun _ hk => hk.2) (.slice Ao19 t404.length co19)) (fun _ h_ => h_.1))) (Kd.zQ ho0) hb); have n1_ := Aside0.mk (Kd.zw (by refine sqR ?_; exact (Kd.zn (Kd.zp (p := ⟨gb408, 1, none⟩) (Kd.zp (p := ⟨gb408, 0, none⟩) (Kd.zz HO406.out BK408.out (by decide)) (fun _ hk => hk.2) (.int .i64 t403)) (fun _ hk => hk.2) (.slice Ao19 t404.length co19)) (fun _ h_ => h_.1))) (Kd.zQ ho0) hb); have n2_ := Aside0.mk (Kd.zD (Kd.zP (Kd.zP ho0 (Kd.qt (by refine sqR ?_; exact (Kd.zn (Kd.zp (p := ⟨gb408, 1, none⟩) (Kd.zp (p := ⟨gb408, 0, none⟩) (Kd.zz HO402.out BK408.out (by decide)) (fun _ hk => hk.2) (.int .i64 t403)) (fun _ hk => hk.2) (.slice Ao19 t404.length co19)) (fun _ h_ => h_.1))))) (Kd.qt (by refine sqR ?_; exact (Kd.zn (Kd.zp (p := ⟨gb408, 1, none⟩) (Kd.zp (p := ⟨gb408, 0, none⟩) (Kd.zz HO406.out BK408.out (by decide)) (fun _ hk => hk.2) (.int .i64 t403)) (fun _ hk => hk.2) (.slice Ao19 t404.length co19)) (fun _ h_ => h_.1))))) (zh sqB)); have n3_ := Aside0.mk (zd (g := gb398) (o := .cells #[.int .i64 0, .slice none 0 0] 24 (0, 0)) (by refine sqK ?_; refine z6 ?_ NB398_408.out _; refine sqK ?_; refine z6 ?_ NB398_408.out _; refine sqK ?_; exact BK398.out) hb); have n4_ := Aside0.mk (zd (g := gb408) (o := .cells #[.int .i64 t403, .slice Ao19 t404.length co19] 24 (0, 0)) (by refine sqK ?_; refine zF (cs := #[.int .i64 t403, .slice none 0 0]) ?_ 1 _ rfl; refine sqK ?_; refine zF (cs := #[.int .i64 0, .slice none 0 0]) ?_ 0 _ rfl; refine sqK ?_; exact BK408.out) hb); have n5_ := Aside0.mk (zc sqB hb); clear HO402; clear HO406; clear BK398; clear BK408; clear HB; have HO402 := n0_; have HO406 := n1_; have HO412 := n2_; have BK398 := n3_; have BK408 := n4_; have HB := n5_; clear n0_ n1_ n2_ n3_ n4_ n5_; (try clear hb); (try clear hb2); (try clear hk); (try clear hi); (try clear ho0)) | ((with_reducible refine zm (N := 8) rfl ?_); refine zq ?hg (N := 8) ?hd (cs := #[.int .i64 0, .slice none 0 0]) (t := 24) ?hr ?_; (case hd => rfl); (case hg => rfl); (case hr => exact sqG); intro gb413 hg w21 hbox hb; have n0_ := Aside0.mk (Kd.zx (sqR HO402.out) hb); have n1_ := Aside0.mk (Kd.zx (sqR HO406.out) hb); have n2_ := Aside0.mk (Kd.zx (sqR HO412.out) hb); have n3_ := Aside0.mk (zd (g := gb398) (o := .cells #[.int .i64 0, .slice none 0 0] 24 (0, 0)) (sqK BK398.out) hb); have n4_ := Aside0.mk (zd (g := gb408) (o := .cells #[.int .i64 t403, .slice Ao19 t404.length co19] 24 (0, 0)) (sqK BK408.out) hb); have n5_ := Aside0.mk (zc sqB hb); have n6_ := Aside0.mk (hbox); have n7_ := Aside0.mk ((sqS hg : w.heap.size ≤ gb413)); have n8_ := Aside0.mk ((sqS hg : w.heap.size ≤ gb413)); have n9_ := Aside0.mk ((by rw [hg]; exact Nat.ne_of_lt (zU (g := gb398) (o := .cells #[.int .i64 0, .slice none 0 0] 24 (0, 0)) (sqK BK398.out)) : gb398 ≠ gb413)); have n10_ := Aside0.mk ((by rw [hg]; exact Nat.ne_of_gt (zU (g := gb398) (o := .cells #[.int .i64 0, .slice none 0 0] 24 (0, 0)) (sqK BK398.out)) : gb413 ≠ gb398)); have n11_ := Aside0.mk ((by rw [hg]; exact Nat.ne_of_lt (zU (g := gb408) (o := .cells #[.int .i64 t403, .slice Ao19 t404.length co19] 24 (0, 0)) (sqK BK408.out)) : gb408 ≠ gb413)); have n12_ := Aside0.mk ((by rw [hg]; exact Nat.ne_of_gt (zU (g := gb408) (o := .cells #[.int .i64 t403, .slice Ao19 t404.length co19] 24 (0, 0)) (sqK BK408.out)) : gb413 ≠ gb408)); clear HO402; clear HO406; clear HO412; clear BK398; clear BK408; clear HB; have HO402 := n0_; have HO406 := n1_; have HO412 := n2_; have BK398 := n3_; have BK408 := n4_; have HB := n5_; have BK413 := n6_; have GW413 := n7_; have GE413 := n8_; have NB398_413 := n9_; have NB413_398 := n10_; have NB408_413 := n11_; have NB413_408 := n12_; clear n0_ n1_ n2_ n3_ n4_ n5_ n6_ n7_ n8_ n9_ n10_ n11_ n12_; clear hb hbox hg; have hnb22 := NB413_398.out; have hnc22 := NB398_413.out; have hnb23 := NB413_408.out; have hnc23 := NB408_413.out; have hcz24_0 : w21.cell? ⟨gb413, 0, none⟩ = some (.int .i64 0) := (za BK413.out 0).trans rfl; have hcz24_1 : w21.cell? ⟨gb413, 1, none⟩ = some (.slice none 0 0) := (za BK413.out 1).trans rfl; have hfz24_0 := zb BK413.out 0; have hfz24_1 := zb BK413.out 1; obtain ⟨Ao25, co25, eo25⟩ := Kd.zK HO412.out; subst eo25) | (go_at_call 40; (try simp only [zi, zj]); (with_reducible refine (qF.calls k t409 _ _ t410 t414 _ ?side1 ?side2 A9.out).mono ?_); (case side1 => refine (Kd.zg (e := 3) (base := w.heap.size) (ok := fun k_ => ((True ∧ some k_ ≠ (.slice Ao14 t400.length co14 : Value).ownBlock) ∧ some k_ ≠ (.slice Ao19 t404.length co19 : Value).ownBlock)) (n := t410.length) (c := co25) ?_).2.2; exact (by refine sqR ?_; exact (Kd.zn (Kd.zp (p := ⟨gb413, 1, none⟩) (Kd.zp (p := ⟨gb413, 0, none⟩) (Kd.zz HO412.out BK413.out (by decide)) (fun _ hk => hk.2) (.int .i64 t409)) (fun _ hk => hk.2) (.slice Ao25 t410.length co25)) (fun _ h_ => h_.1)))); (case side2 => exact (Kd.zg HO412.out).2.1); rintro e w26 ⟨v415, rfl, ho0, hb⟩; have n0_ := Aside0.mk (Kd.zw (by refine sqR ?_; exact (Kd.zn (Kd.zp (p := ⟨gb413, 1, none⟩) (Kd.zp (p := ⟨gb413, 0, none⟩) (Kd.zz HO402.out BK413.out (by decide)) (fun _ hk => hk.2) (.int .i64 t409)) (fun _ hk => hk.2) (.slice Ao25 t410.length co25)) (fun _ h_ => h_.1))) (Kd.zQ ho0) hb); have n1_ := Aside0.mk (Kd.zw (by refine sqR ?_; exact (Kd.zn (Kd.zp (p := ⟨gb413, 1, none⟩) (Kd.zp (p := ⟨gb413, 0, none⟩) (Kd.zz HO406.out BK413.out (by decide)) (fun _ hk => hk.2) (.int .i64 t409)) (fun _ hk => hk.2) (.slice Ao25 t410.length co25)) (fun _ h_ => h_.1))) (Kd.zQ ho0) hb); have n2_ := Aside0.mk (Kd.zw (by refine sqR ?_; exact (Kd.zn (Kd.zp (p := ⟨gb413, 1, none⟩) (Kd.zp (p := ⟨gb413, 0, none⟩) (Kd.zz HO412.out BK413.out (by decide)) (fun _ hk => hk.2) (.int .i64 t409)) (fun _ hk => hk.2) (.slice Ao25 t410.length co25)) (fun _ h_ => h_.1))) (Kd.zQ ho0) hb); have n3_ := Aside0.mk (Kd.zD (Kd.zP (Kd.zP (Kd.zP ho0 (Kd.qt (by refine sqR ?_; exact (Kd.zn (Kd.zp (p := ⟨gb413, 1, none⟩) (Kd.zp (p := ⟨gb413, 0, none⟩) (Kd.zz HO402.out BK413.out (by decide)) (fun _ hk => hk.2) (.int .i64 t409)) (fun _ hk => hk.2) (.slice Ao25 t410.length co25)) (fun _ h_ => h_.1))))) (Kd.qt (by refine sqR ?_; exact (Kd.zn (Kd.zp (p := ⟨gb413, 1, none⟩) (Kd.zp (p := ⟨gb413, 0, none⟩) (Kd.zz HO406.out BK413.out (by decide)) (fun _ hk => hk.2) (.int .i64 t409)) (fun _ hk => hk.2) (.slice Ao25 t410.length co25)) (fun _ h_ => h_.1))))) (Kd.qt (by refine sqR ?_; exact (Kd.zn (Kd.zp (p := ⟨gb413, 1, none⟩) (Kd.zp (p := ⟨gb413, 0, none⟩) (Kd.zz HO412.out BK413.out (by decide)) (fun _ hk => hk.2) (.int .i64 t409)) (fun _ hk => hk.2) (.slice Ao25 t410.length co25)) (fun _ h_ => h_.1))))) (zh sqB)); have n4_ := Aside0.mk (zd (g := gb398) (o := .cells #[.int .i64 0, .slice none 0 0] 24 (0, 0)) (by refine sqK ?_; refine z6 ?_ NB398_413.out _; refine sqK ?_; refine z6 ?_ NB398_413.out _; refine sqK ?_; exact BK398.out) hb); have n5_ := Aside0.mk (zd (g := gb408) (o := .cells #[.int .i64 t403, .slice Ao19 t404.length co19] 24 (0, 0)) (by refine sqK ?_; refine z6 ?_ NB408_413.out _; refine sqK ?_; refine z6 ?_ NB408_413.out _; refine sqK ?_; exact BK408.out) hb); have n6_ := Aside0.mk (zd (g := gb413) (o := .cells #[.int .i64 t409, .slice Ao25 t410.length co25] 24 (0, 0)) (by refine sqK ?_; refine zF (cs := #[.int .i64 t409, .slice none 0 0]) ?_ 1 _ rfl; refine sqK ?_; refine zF (cs := #[.int .i64 0, .slice none 0 0]) ?_ 0 _ rfl; refine sqK ?_; exact BK413.out) hb); have n7_ := Aside0.mk (zc sqB hb); clear HO402; clear HO406; clear HO412; clear BK398; clear BK408; clear BK413; clear HB; have HO402 := n0_; have HO406 := n1_; have HO412 := n2_; have HO416 := n3_; have BK398 := n4_; have BK408 := n5_; have BK413 := n6_; have HB := n7_; clear n0_ n1_ n2_ n3_ n4_ n5_ n6_ n7_; (try clear hb); (try clear hb2); (try clear hk); (try clear hi); (try clear ho0); obtain ⟨Ao27, co27, eo27⟩ := Kd.zK HO416.out; subst eo27) | (go_at_call 23; (try simp only [zi, zj]); (with_reducible refine (zr.calls k _ _ t414 _ _ l1 true _ ?side1 ?side2 ?side3 ?side4 A10.out).mono ?_); (case side1 => exact sqC (Kd.zg HO416.out).2.2); (case side2 => exact (Kd.zg HO416.out).2.1); (case side3 => exact sqC (Kd.zt HR1.out HB.out)); (case side4 => exact HC1.out); rintro e w' ⟨rfl, ⟨nd, rfl⟩⟩; (try (rw [qO w26]; generalize hq_ : World.drewN w26 _ = w26; have n0_ : Aside0 (Kd.R (Kd.int .i64) 3 w26 w.heap.size (fun k_ => some k_ ≠ (.slice Ao19 t404.length co19 : Value).ownBlock ∧ some k_ ≠ (.slice Ao25 t410.length co25 : Value).ownBlock ∧ some k_ ≠ (.slice Ao27 t414.length co27 : Value).ownBlock) (.slice Ao14 t400.length co14) t400) := ⟨by rw [← hq_]; exact (by refine sqR ?_; exact Kd.zn HO402.out (fun _ hk => by first | exact ⟨hk.1.1.2, ⟨hk.1.2, hk.2⟩⟩ | (refine ⟨?_, ?_, ?_⟩ <;> intro e_ <;> simp only [e_, ne_eq, not_true_eq_false, and_false, false_and] at hk)))⟩; have n1_ : Aside0 (Kd.R (Kd.int .i64) 3 w26 w.heap.size (fun k_ => some k_ ≠ (.slice Ao14 t400.length co14 : Value).ownBlock ∧ some k_ ≠ (.slice Ao25 t410.length co25 : Value).ownBlock ∧ some k_ ≠ (.slice Ao27 t414.length co27 : Value).ownBlock) (.slice Ao19 t404.length co19) t404) := ⟨by rw [← hq_]; exact (by refine sqR ?_; exact Kd.zn HO406.out (fun _ hk => by first | exact ⟨hk.1.1.2, ⟨hk.1.2, hk.2⟩⟩ | (refine ⟨?_, ?_, ?_⟩ <;> intro e_ <;> simp only [e_, ne_eq, not_true_eq_false, and_false, false_and] at hk)))⟩; have n2_ : Aside0 (Kd.R (Kd.int .i64) 3 w26 w.heap.size (fun k_ => some k_ ≠ (.slice Ao14 t400.length co14 : Value).ownBlock ∧ some k_ ≠ (.slice Ao19 t404.length co19 : Value).ownBlock ∧ some k_ ≠ (.slice Ao27 t414.length co27 : Value).ownBlock) (.slice Ao25 t410.length co25) t410) := ⟨by rw [← hq_]; exact (by refine sqR ?_; exact Kd.zn HO412.out (fun _ hk => by first | exact ⟨hk.1.1.2, ⟨hk.1.2, hk.2⟩⟩ | (refine ⟨?_, ?_, ?_⟩ <;> intro e_ <;> simp only [e_, ne_eq, not_true_eq_false, and_false, false_and] at hk)))⟩; have n3_ : Aside0 (Kd.R (Kd.int .i64) 3 w26 w.heap.size (fun k_ => some k_ ≠ (.slice Ao14 t400.length co14 : Value).ownBlock ∧ some k_ ≠ (.slice Ao19 t404.length co19 : Value).ownBlock ∧ some k_ ≠ (.slice Ao25 t410.length co25 : Value).ownBlock) (.slice Ao27 t414.length co27) t414) := ⟨by rw [← hq_]; exact (by refine sqR ?_; exact Kd.zn HO416.out (fun _ hk => by first | exact ⟨hk.1.1.2, ⟨hk.1.2, hk.2⟩⟩ | (refine ⟨?_, ?_, ?_⟩ <;> intro e_ <;> simp only [e_, ne_eq, not_true_eq_false, and_false, false_and] at hk)))⟩; have n4_ : Aside0 (w26.heap[gb398]? = some (.cells #[.int .i64 0, .slice none 0 0] 24 (0, 0))) := ⟨by rw [← hq_]; exact (sqK BK398.out)⟩; have n5_ : Aside0 (w26.heap[gb408]? = some (.cells #[.int .i64 t403, .slice Ao19 t404.length co19] 24 (0, 0))) := ⟨by rw [← hq_]; exact (sqK BK408.out)⟩; have n6_ : Aside0 (w26.heap[gb413]? = some (.cells #[.int .i64 t409, .slice Ao25 t410.length co25] 24 (0, 0))) := ⟨by rw [← hq_]; exact (sqK BK413.out)⟩; have n7_ : Aside0 (Below w.heap.size w w26) := ⟨by rw [← hq_]; exact sqB⟩; clear HO402 HO406 HO412 HO416 BK398 BK408 BK413 HB hq_; have HO402 := n0_; have HO406 := n1_; have HO412 := n2_; have HO416 := n3_; have BK398 := n4_; have BK408 := n5_; have BK413 := n6_; have HB := n7_; clear n0_ n1_ n2_ n3_ n4_ n5_ n6_ n7_; have hczqgb398_0 : w26.cell? ⟨gb398, 0, none⟩ = some (.int .i64 0) := (za BK398.out 0).trans rfl; have hfzqgb398_0 := zb BK398.out 0; have hczqgb398_1 : w26.cell? ⟨gb398, 1, none⟩ = some (.slice none 0 0) := (za BK398.out 1).trans rfl; have hfzqgb398_1 := zb BK398.out 1; have hczqgb408_0 : w26.cell? ⟨gb408, 0, none⟩ = some (.int .i64 t403) := (za BK408.out 0).trans rfl; have hfzqgb408_0 := zb BK408.out 0; have hczqgb408_1 : w26.cell? ⟨gb408, 1, none⟩ = some (.slice Ao19 t404.length co19) := (za BK408.out 1).trans rfl; have hfzqgb408_1 := zb BK408.out 1; have hczqgb413_0 : w26.cell? ⟨gb413, 0, none⟩ = some (.int .i64 t409) := (za BK413.out 0).trans rfl; have hfzqgb413_0 := zb BK413.out 0; have hczqgb413_1 : w26.cell? ⟨gb413, 1, none⟩ = some (.slice Ao25 t410.length co25) := (za BK413.out 1).trans rfl; have hfzqgb413_1 := zb BK413.out 1)); have hcz28_0 : w26.cell? ⟨gb413, 0, none⟩ = some (.int .i64 t409) := (za BK413.out 0).trans rfl; have hcz28_1 : w26.cell? ⟨gb413, 1, none⟩ = some (.slice Ao25 t410.length co25) := (za BK413.out 1).trans rfl; have hfz28_0 := zb BK413.out 0; have hfz28_1 := zb BK413.out 1; have hcz29_0 : w26.cell? ⟨gb398, 0, none⟩ = some (.int .i64 0) := (za BK398.out 0).trans rfl; have hcz29_1 : w26.cell? ⟨gb398, 1, none⟩ = some (.slice none 0 0) := (za BK398.out 1).trans rfl; have hfz29_0 := zb BK398.out 0; have hfz29_1 := zb BK398.out 1))
    refine bodyPost_ret (qz rfl _ _ gb398 24 #[.int .i64 t409, .slice Ao25 t410.length co25] (0, 0) _ rfl (by refine sqK ?_; refine zF (cs := #[.int .i64 t409, .slice none 0 0]) ?_ 1 _ rfl; refine sqK ?_; refine zF (cs := #[.int .i64 0, .slice none 0 0]) ?_ 0 _ rfl; refine sqK ?_; exact BK398.out) Tryz.underlying24 rfl (by kernel_rfl)) rfl ?_
    exact ⟨_, sqE, by refine sqR ?_; exact Kd.zn (Kd.zp (p := ⟨gb398, 1, none⟩) (Kd.zp (p := ⟨gb398, 0, none⟩) (Kd.zz HO412.out BK398.out (by decide)) (fun _ hk => hk.2) (.int .i64 t409)) (fun _ hk => hk.2) (.slice Ao25 t410.length co25)) (fun _ hk => trivial), sqB⟩
   ·replace c11 := Bool.eq_false_iff.mpr c11
    subst c11
    have H1 : (some (0, ([] : List Int), false)) = some (r1, r2, r3) := by rw [if_neg (show ¬ (false = true) by decide)] at H; exact H
    clear H
    have H := H1
    clear H1
    simp only [Option.some.injEq, Prod.mk.injEq] at H
    obtain ⟨rfl, rfl, rfl⟩ := H
    go_enter Tryz.func21, Tryz.ntmps21
    go_wp2_with (first | ((with_reducible refine zm (N := 4) rfl ?_); refine zq ?hg (N := 4) ?hd (cs := #[.int .i64 0, .slice none 0 0]) (t := 24) ?hr ?_; (case hd => rfl); (case hg => rfl); (case hr => exact sqG); intro gb398 hg w30 hbox hb; have n0_ := Aside0.mk (zc sqB hb); have n1_ := Aside0.mk (hbox); have n2_ := Aside0.mk ((sqS hg : w.heap.size ≤ gb398)); have n3_ := Aside0.mk ((sqS hg : w.heap.size ≤ gb398)); clear HB; have HB := n0_; have BK398 := n1_; have GW398 := n2_; have GE398 := n3_; clear n0_ n1_ n2_ n3_; clear hb hbox hg) | ((with_reducible refine ze (f := 19) rfl ?_); refine zv (some 11) rfl rfl Tryz.func19 (by kernel_rfl) rfl #[.int .i64 a0, .slice A1 l1.length c1] rfl sqM ?_; (with_reducible refine (zJ.calls k a0 _ _ l1 true _ ?side1 ?side2 A3.out).mono ?_); (case side1 => exact sqC (Kd.zt HR1.out HB.out)); (case side2 => exact HC1.out); rintro e w' ⟨rfl, ⟨nd, rfl⟩⟩; refine ⟨_, rfl, ?_⟩; (try (rw [qO w30]; generalize hq_ : World.drewN w30 _ = w30; have n0_ : Aside0 (w30.heap[gb398]? = some (.cells #[.int .i64 0, .slice none 0 0] 24 (0, 0))) := ⟨by rw [← hq_]; exact (sqK BK398.out)⟩; have n1_ : Aside0 (Below w.heap.size w w30) := ⟨by rw [← hq_]; exact sqB⟩; clear BK398 HB hq_; have BK398 := n0_; have HB := n1_; clear n0_ n1_; have hczqgb398_0 : w30.cell? ⟨gb398, 0, none⟩ = some (.int .i64 0) := (za BK398.out 0).trans rfl; have hfzqgb398_0 := zb BK398.out 0; have hczqgb398_1 : w30.cell? ⟨gb398, 1, none⟩ = some (.slice none 0 0) := (za BK398.out 1).trans rfl; have hfzqgb398_1 := zb BK398.out 1))) | ((with_reducible refine ze (f := 38) rfl ?_); refine zv (some 18) rfl rfl Tryz.func38 (by kernel_rfl) rfl #[.int .i64 a0, .slice A1 l1.length c1] rfl sqM ?_; (with_reducible refine (zI.calls k a0 _ _ l1 t400 _ ?side1 ?side2 A5.out).mono ?_); (case side1 => exact sqC (Kd.zt HR1.out HB.out)); (case side2 => exact HC1.out); rintro e w31 ⟨v401, rfl, ho0, hb⟩; refine ⟨_, rfl, ?_⟩; have n0_ := Aside0.mk (Kd.zD ho0 (zh sqB)); have n1_ := Aside0.mk (zd (g := gb398) (o := .cells #[.int .i64 0, .slice none 0 0] 24 (0, 0)) (sqK BK398.out) hb); have n2_ := Aside0.mk (zc sqB hb); clear BK398; clear HB; have HO402 := n0_; have BK398 := n1_; have HB := n2_; clear n0_ n1_ n2_; (try clear hb); (try clear hb2); (try clear hk); (try clear hi); (try clear ho0); obtain ⟨Ao32, co32, eo32⟩ := Kd.zK HO402.out; subst eo32) | ((with_reducible refine ze (f := 37) rfl ?_); refine zv (some 19) rfl rfl Tryz.func37 (by kernel_rfl) rfl #[.int .i64 a0, .slice Ao32 t400.length co32] rfl sqM ?_; (with_reducible refine (zW.calls k a0 _ _ t400 t403 t404 true _ ?side1 ?side2 A6.out).mono ?_); (case side1 => exact sqC (Kd.zg HO402.out).2.2); (case side2 => exact (Kd.zg HO402.out).2.1); rintro e w33 ⟨v405, rfl, ho0, hb⟩; refine ⟨_, rfl, ?_⟩; have n0_ := Aside0.mk (Kd.zw (sqR HO402.out) (Kd.zQ ho0) hb); have n1_ := Aside0.mk (Kd.zD (Kd.zP ho0 (Kd.qt (sqR HO402.out))) (zh sqB)); have n2_ := Aside0.mk (zd (g := gb398) (o := .cells #[.int .i64 0, .slice none 0 0] 24 (0, 0)) (sqK BK398.out) hb); have n3_ := Aside0.mk (zc sqB hb); clear HO402; clear BK398; clear HB; have HO402 := n0_; have HO406 := n1_; have BK398 := n2_; have HB := n3_; clear n0_ n1_ n2_ n3_; (try clear hb); (try clear hb2); (try clear hk); (try clear hi); (try clear ho0)) | ((with_reducible refine zm (N := 6) rfl ?_); refine zq ?hg (N := 6) ?hd (cs := #[.int .i64 0, .slice none 0 0]) (t := 24) ?hr ?_; (case hd => rfl); (case hg => rfl); (case hr => exact sqG); intro gb408 hg w34 hbox hb; have n0_ := Aside0.mk (Kd.zx (sqR HO402.out) hb); have n1_ := Aside0.mk (Kd.zx (sqR HO406.out) hb); have n2_ := Aside0.mk (zd (g := gb398) (o := .cells #[.int .i64 0, .slice none 0 0] 24 (0, 0)) (sqK BK398.out) hb); have n3_ := Aside0.mk (zc sqB hb); have n4_ := Aside0.mk (hbox); have n5_ := Aside0.mk ((sqS hg : w.heap.size ≤ gb408)); have n6_ := Aside0.mk ((sqS hg : w.heap.size ≤ gb408)); have n7_ := Aside0.mk ((by rw [hg]; exact Nat.ne_of_lt (zU (g := gb398) (o := .cells #[.int .i64 0, .slice none 0 0] 24 (0, 0)) (sqK BK398.out)) : gb398 ≠ gb408)); have n8_ := Aside0.mk ((by rw [hg]; exact Nat.ne_of_gt (zU (g := gb398) (o := .cells #[.int .i64 0, .slice none 0 0] 24 (0, 0)) (sqK BK398.out)) : gb408 ≠ gb398)); clear HO402; clear HO406; clear BK398; clear HB; have HO402 := n0_; have HO406 := n1_; have BK398 := n2_; have HB := n3_; have BK408 := n4_; have GW408 := n5_; have GE408 := n6_; have NB398_408 := n7_; have NB408_398 := n8_; clear n0_ n1_ n2_ n3_ n4_ n5_ n6_ n7_ n8_; clear hb hbox hg; have hnb35 := NB408_398.out; have hnc35 := NB398_408.out; have hcz36_0 : w34.cell? ⟨gb408, 0, none⟩ = some (.int .i64 0) := (za BK408.out 0).trans rfl; have hcz36_1 : w34.cell? ⟨gb408, 1, none⟩ = some (.slice none 0 0) := (za BK408.out 1).trans rfl; have hfz36_0 := zb BK408.out 0; have hfz36_1 := zb BK408.out 1; obtain ⟨Ao37, co37, eo37⟩ := Kd.zK HO406.out; subst eo37) | ((with_reducible refine ze (f := 39) rfl ?_); refine zv (some 23) rfl rfl Tryz.func39 (by kernel_rfl) rfl #[.agg #[.int .i64 t403, .slice Ao37 t404.length co37]] rfl sqM ?_; (with_reducible refine (qJ.calls k t403 _ _ t404 t409 t410 _ ?side1 ?side2 A7.out).mono ?_); (case side1 => refine (Kd.zg (e := 3) (base := w.heap.size) (ok := fun k_ => (True ∧ some k_ ≠ (.slice Ao32 t400.length co32 : Value).ownBlock)) (n := t404.length) (c := co37) ?_).2.2; exact (by refine sqR ?_; exact (Kd.zn (Kd.zp (p := ⟨gb408, 1, none⟩) (Kd.zp (p := ⟨gb408, 0, none⟩) (Kd.zz HO406.out BK408.out (by decide)) (fun _ hk => hk.2) (.int .i64 t403)) (fun _ hk => hk.2) (.slice Ao37 t404.length co37)) (fun _ h_ => h_.1)))); (case side2 => exact (Kd.zg HO406.out).2.1); rintro e w38 ⟨v411, rfl, ho0, hb⟩; refine ⟨_, rfl, ?_⟩; have n0_ := Aside0.mk (Kd.zw (by refine sqR ?_; exact (Kd.zn (Kd.zp (p := ⟨gb408, 1, none⟩) (Kd.zp (p := ⟨gb408, 0, none⟩) (Kd.zz HO402.out BK408.out (by decide)) (fun _ hk => hk.2) (.int .i64 t403)) (fun _ hk => hk.2) (.slice Ao37 t404.length co37)) (fun _ h_ => h_.1))) (Kd.zQ ho0) hb); have n1_ := Aside0.mk (Kd.zw (by refine sqR ?_; exact (Kd.zn (Kd.zp (p := ⟨gb408, 1, none⟩) (Kd.zp (p := ⟨gb408, 0, none⟩) (Kd.zz HO406.out BK408.out (by decide)) (fun _ hk => hk.2) (.int .i64 t403)) (fun _ hk => hk.2) (.slice Ao37 t404.length co37)) (fun _ h_ => h_.1))) (Kd.zQ ho0) hb); have n2_ := Aside0.mk (Kd.zD (Kd.zP (Kd.zP ho0 (Kd.qt (by refine sqR ?_; exact (Kd.zn (Kd.zp (p := ⟨gb408, 1, none⟩) (Kd.zp (p := ⟨gb408, 0, none⟩) (Kd.zz HO402.out BK408.out (by decide)) (fun _ hk => hk.2) (.int .i64 t403)) (fun _ hk => hk.2) (.slice Ao37 t404.length co37)) (fun _ h_ => h_.1))))) (Kd.qt (by refine sqR ?_; exact (Kd.zn (Kd.zp (p := ⟨gb408, 1, none⟩) (Kd.zp (p := ⟨gb408, 0, none⟩) (Kd.zz HO406.out BK408.out (by decide)) (fun _ hk => hk.2) (.int .i64 t403)) (fun _ hk => hk.2) (.slice Ao37 t404.length co37)) (fun _ h_ => h_.1))))) (zh sqB)); have n3_ := Aside0.mk (zd (g := gb398) (o := .cells #[.int .i64 0, .slice none 0 0] 24 (0, 0)) (by refine sqK ?_; refine z6 ?_ NB398_408.out _; refine sqK ?_; refine z6 ?_ NB398_408.out _; refine sqK ?_; exact BK398.out) hb); have n4_ := Aside0.mk (zd (g := gb408) (o := .cells #[.int .i64 t403, .slice Ao37 t404.length co37] 24 (0, 0)) (by refine sqK ?_; refine zF (cs := #[.int .i64 t403, .slice none 0 0]) ?_ 1 _ rfl; refine sqK ?_; refine zF (cs := #[.int .i64 0, .slice none 0 0]) ?_ 0 _ rfl; refine sqK ?_; exact BK408.out) hb); have n5_ := Aside0.mk (zc sqB hb); clear HO402; clear HO406; clear BK398; clear BK408; clear HB; have HO402 := n0_; have HO406 := n1_; have HO412 := n2_; have BK398 := n3_; have BK408 := n4_; have HB := n5_; clear n0_ n1_ n2_ n3_ n4_ n5_; (try clear hb); (try clear hb2); (try clear hk); (try clear hi); (try clear ho0)) | ((with_reducible refine zm (N := 8) rfl ?_); refine zq ?hg (N := 8) ?hd (cs := #[.int .i64 0, .slice none 0 0]) (t := 24) ?hr ?_; (case hd => rfl); (case hg => rfl); (case hr => exact sqG); intro gb413 hg w39 hbox hb; have n0_ := Aside0.mk (Kd.zx (sqR HO402.out) hb); have n1_ := Aside0.mk (Kd.zx (sqR HO406.out) hb); have n2_ := Aside0.mk (Kd.zx (sqR HO412.out) hb); have n3_ := Aside0.mk (zd (g := gb398) (o := .cells #[.int .i64 0, .slice none 0 0] 24 (0, 0)) (sqK BK398.out) hb); have n4_ := Aside0.mk (zd (g := gb408) (o := .cells #[.int .i64 t403, .slice Ao37 t404.length co37] 24 (0, 0)) (sqK BK408.out) hb); have n5_ := Aside0.mk (zc sqB hb); have n6_ := Aside0.mk (hbox); have n7_ := Aside0.mk ((sqS hg : w.heap.size ≤ gb413)); have n8_ := Aside0.mk ((sqS hg : w.heap.size ≤ gb413)); have n9_ := Aside0.mk ((by rw [hg]; exact Nat.ne_of_lt (zU (g := gb398) (o := .cells #[.int .i64 0, .slice none 0 0] 24 (0, 0)) (sqK BK398.out)) : gb398 ≠ gb413)); have n10_ := Aside0.mk ((by rw [hg]; exact Nat.ne_of_gt (zU (g := gb398) (o := .cells #[.int .i64 0, .slice none 0 0] 24 (0, 0)) (sqK BK398.out)) : gb413 ≠ gb398)); have n11_ := Aside0.mk ((by rw [hg]; exact Nat.ne_of_lt (zU (g := gb408) (o := .cells #[.int .i64 t403, .slice Ao37 t404.length co37] 24 (0, 0)) (sqK BK408.out)) : gb408 ≠ gb413)); have n12_ := Aside0.mk ((by rw [hg]; exact Nat.ne_of_gt (zU (g := gb408) (o := .cells #[.int .i64 t403, .slice Ao37 t404.length co37] 24 (0, 0)) (sqK BK408.out)) : gb413 ≠ gb408)); clear HO402; clear HO406; clear HO412; clear BK398; clear BK408; clear HB; have HO402 := n0_; have HO406 := n1_; have HO412 := n2_; have BK398 := n3_; have BK408 := n4_; have HB := n5_; have BK413 := n6_; have GW413 := n7_; have GE413 := n8_; have NB398_413 := n9_; have NB413_398 := n10_; have NB408_413 := n11_; have NB413_408 := n12_; clear n0_ n1_ n2_ n3_ n4_ n5_ n6_ n7_ n8_ n9_ n10_ n11_ n12_; clear hb hbox hg; have hnb40 := NB413_398.out; have hnc40 := NB398_413.out; have hnb41 := NB413_408.out; have hnc41 := NB408_413.out; have hcz42_0 : w39.cell? ⟨gb413, 0, none⟩ = some (.int .i64 0) := (za BK413.out 0).trans rfl; have hcz42_1 : w39.cell? ⟨gb413, 1, none⟩ = some (.slice none 0 0) := (za BK413.out 1).trans rfl; have hfz42_0 := zb BK413.out 0; have hfz42_1 := zb BK413.out 1; obtain ⟨Ao43, co43, eo43⟩ := Kd.zK HO412.out; subst eo43) | (go_at_call 40; (try simp only [zi, zj]); (with_reducible refine (qF.calls k t409 _ _ t410 t414 _ ?side1 ?side2 A9.out).mono ?_); (case side1 => refine (Kd.zg (e := 3) (base := w.heap.size) (ok := fun k_ => ((True ∧ some k_ ≠ (.slice Ao32 t400.length co32 : Value).ownBlock) ∧ some k_ ≠ (.slice Ao37 t404.length co37 : Value).ownBlock)) (n := t410.length) (c := co43) ?_).2.2; exact (by refine sqR ?_; exact (Kd.zn (Kd.zp (p := ⟨gb413, 1, none⟩) (Kd.zp (p := ⟨gb413, 0, none⟩) (Kd.zz HO412.out BK413.out (by decide)) (fun _ hk => hk.2) (.int .i64 t409)) (fun _ hk => hk.2) (.slice Ao43 t410.length co43)) (fun _ h_ => h_.1)))); (case side2 => exact (Kd.zg HO412.out).2.1); rintro e w44 ⟨v415, rfl, ho0, hb⟩; have n0_ := Aside0.mk (Kd.zw (by refine sqR ?_; exact (Kd.zn (Kd.zp (p := ⟨gb413, 1, none⟩) (Kd.zp (p := ⟨gb413, 0, none⟩) (Kd.zz HO402.out BK413.out (by decide)) (fun _ hk => hk.2) (.int .i64 t409)) (fun _ hk => hk.2) (.slice Ao43 t410.length co43)) (fun _ h_ => h_.1))) (Kd.zQ ho0) hb); have n1_ := Aside0.mk (Kd.zw (by refine sqR ?_; exact (Kd.zn (Kd.zp (p := ⟨gb413, 1, none⟩) (Kd.zp (p := ⟨gb413, 0, none⟩) (Kd.zz HO406.out BK413.out (by decide)) (fun _ hk => hk.2) (.int .i64 t409)) (fun _ hk => hk.2) (.slice Ao43 t410.length co43)) (fun _ h_ => h_.1))) (Kd.zQ ho0) hb); have n2_ := Aside0.mk (Kd.zw (by refine sqR ?_; exact (Kd.zn (Kd.zp (p := ⟨gb413, 1, none⟩) (Kd.zp (p := ⟨gb413, 0, none⟩) (Kd.zz HO412.out BK413.out (by decide)) (fun _ hk => hk.2) (.int .i64 t409)) (fun _ hk => hk.2) (.slice Ao43 t410.length co43)) (fun _ h_ => h_.1))) (Kd.zQ ho0) hb); have n3_ := Aside0.mk (Kd.zD (Kd.zP (Kd.zP (Kd.zP ho0 (Kd.qt (by refine sqR ?_; exact (Kd.zn (Kd.zp (p := ⟨gb413, 1, none⟩) (Kd.zp (p := ⟨gb413, 0, none⟩) (Kd.zz HO402.out BK413.out (by decide)) (fun _ hk => hk.2) (.int .i64 t409)) (fun _ hk => hk.2) (.slice Ao43 t410.length co43)) (fun _ h_ => h_.1))))) (Kd.qt (by refine sqR ?_; exact (Kd.zn (Kd.zp (p := ⟨gb413, 1, none⟩) (Kd.zp (p := ⟨gb413, 0, none⟩) (Kd.zz HO406.out BK413.out (by decide)) (fun _ hk => hk.2) (.int .i64 t409)) (fun _ hk => hk.2) (.slice Ao43 t410.length co43)) (fun _ h_ => h_.1))))) (Kd.qt (by refine sqR ?_; exact (Kd.zn (Kd.zp (p := ⟨gb413, 1, none⟩) (Kd.zp (p := ⟨gb413, 0, none⟩) (Kd.zz HO412.out BK413.out (by decide)) (fun _ hk => hk.2) (.int .i64 t409)) (fun _ hk => hk.2) (.slice Ao43 t410.length co43)) (fun _ h_ => h_.1))))) (zh sqB)); have n4_ := Aside0.mk (zd (g := gb398) (o := .cells #[.int .i64 0, .slice none 0 0] 24 (0, 0)) (by refine sqK ?_; refine z6 ?_ NB398_413.out _; refine sqK ?_; refine z6 ?_ NB398_413.out _; refine sqK ?_; exact BK398.out) hb); have n5_ := Aside0.mk (zd (g := gb408) (o := .cells #[.int .i64 t403, .slice Ao37 t404.length co37] 24 (0, 0)) (by refine sqK ?_; refine z6 ?_ NB408_413.out _; refine sqK ?_; refine z6 ?_ NB408_413.out _; refine sqK ?_; exact BK408.out) hb); have n6_ := Aside0.mk (zd (g := gb413) (o := .cells #[.int .i64 t409, .slice Ao43 t410.length co43] 24 (0, 0)) (by refine sqK ?_; refine zF (cs := #[.int .i64 t409, .slice none 0 0]) ?_ 1 _ rfl; refine sqK ?_; refine zF (cs := #[.int .i64 0, .slice none 0 0]) ?_ 0 _ rfl; refine sqK ?_; exact BK413.out) hb); have n7_ := Aside0.mk (zc sqB hb); clear HO402; clear HO406; clear HO412; clear BK398; clear BK408; clear BK413; clear HB; have HO402 := n0_; have HO406 := n1_; have HO412 := n2_; have HO416 := n3_; have BK398 := n4_; have BK408 := n5_; have BK413 := n6_; have HB := n7_; clear n0_ n1_ n2_ n3_ n4_ n5_ n6_ n7_; (try clear hb); (try clear hb2); (try clear hk); (try clear hi); (try clear ho0); obtain ⟨Ao45, co45, eo45⟩ := Kd.zK HO416.out; subst eo45) | (go_at_call 23; (try simp only [zi, zj]); (with_reducible refine (zr.calls k _ _ t414 _ _ l1 false _ ?side1 ?side2 ?side3 ?side4 A10.out).mono ?_); (case side1 => exact sqC (Kd.zg HO416.out).2.2); (case side2 => exact (Kd.zg HO416.out).2.1); (case side3 => exact sqC (Kd.zt HR1.out HB.out)); (case side4 => exact HC1.out); rintro e w' ⟨rfl, ⟨nd, rfl⟩⟩; (try (rw [qO w44]; generalize hq_ : World.drewN w44 _ = w44; have n0_ : Aside0 (Kd.R (Kd.int .i64) 3 w44 w.heap.size (fun k_ => some k_ ≠ (.slice Ao37 t404.length co37 : Value).ownBlock ∧ some k_ ≠ (.slice Ao43 t410.length co43 : Value).ownBlock ∧ some k_ ≠ (.slice Ao45 t414.length co45 : Value).ownBlock) (.slice Ao32 t400.length co32) t400) := ⟨by rw [← hq_]; exact (by refine sqR ?_; exact Kd.zn HO402.out (fun _ hk => by first | exact ⟨hk.1.1.2, ⟨hk.1.2, hk.2⟩⟩ | (refine ⟨?_, ?_, ?_⟩ <;> intro e_ <;> simp only [e_, ne_eq, not_true_eq_false, and_false, false_and] at hk)))⟩; have n1_ : Aside0 (Kd.R (Kd.int .i64) 3 w44 w.heap.size (fun k_ => some k_ ≠ (.slice Ao32 t400.length co32 : Value).ownBlock ∧ some k_ ≠ (.slice Ao43 t410.length co43 : Value).ownBlock ∧ some k_ ≠ (.slice Ao45 t414.length co45 : Value).ownBlock) (.slice Ao37 t404.length co37) t404) := ⟨by rw [← hq_]; exact (by refine sqR ?_; exact Kd.zn HO406.out (fun _ hk => by first | exact ⟨hk.1.1.2, ⟨hk.1.2, hk.2⟩⟩ | (refine ⟨?_, ?_, ?_⟩ <;> intro e_ <;> simp only [e_, ne_eq, not_true_eq_false, and_false, false_and] at hk)))⟩; have n2_ : Aside0 (Kd.R (Kd.int .i64) 3 w44 w.heap.size (fun k_ => some k_ ≠ (.slice Ao32 t400.length co32 : Value).ownBlock ∧ some k_ ≠ (.slice Ao37 t404.length co37 : Value).ownBlock ∧ some k_ ≠ (.slice Ao45 t414.length co45 : Value).ownBlock) (.slice Ao43 t410.length co43) t410) := ⟨by rw [← hq_]; exact (by refine sqR ?_; exact Kd.zn HO412.out (fun _ hk => by first | exact ⟨hk.1.1.2, ⟨hk.1.2, hk.2⟩⟩ | (refine ⟨?_, ?_, ?_⟩ <;> intro e_ <;> simp only [e_, ne_eq, not_true_eq_false, and_false, false_and] at hk)))⟩; have n3_ : Aside0 (Kd.R (Kd.int .i64) 3 w44 w.heap.size (fun k_ => some k_ ≠ (.slice Ao32 t400.length co32 : Value).ownBlock ∧ some k_ ≠ (.slice Ao37 t404.length co37 : Value).ownBlock ∧ some k_ ≠ (.slice Ao43 t410.length co43 : Value).ownBlock) (.slice Ao45 t414.length co45) t414) := ⟨by rw [← hq_]; exact (by refine sqR ?_; exact Kd.zn HO416.out (fun _ hk => by first | exact ⟨hk.1.1.2, ⟨hk.1.2, hk.2⟩⟩ | (refine ⟨?_, ?_, ?_⟩ <;> intro e_ <;> simp only [e_, ne_eq, not_true_eq_false, and_false, false_and] at hk)))⟩; have n4_ : Aside0 (w44.heap[gb398]? = some (.cells #[.int .i64 0, .slice none 0 0] 24 (0, 0))) := ⟨by rw [← hq_]; exact (sqK BK398.out)⟩; have n5_ : Aside0 (w44.heap[gb408]? = some (.cells #[.int .i64 t403, .slice Ao37 t404.length co37] 24 (0, 0))) := ⟨by rw [← hq_]; exact (sqK BK408.out)⟩; have n6_ : Aside0 (w44.heap[gb413]? = some (.cells #[.int .i64 t409, .slice Ao43 t410.length co43] 24 (0, 0))) := ⟨by rw [← hq_]; exact (sqK BK413.out)⟩; have n7_ : Aside0 (Below w.heap.size w w44) := ⟨by rw [← hq_]; exact sqB⟩; clear HO402 HO406 HO412 HO416 BK398 BK408 BK413 HB hq_; have HO402 := n0_; have HO406 := n1_; have HO412 := n2_; have HO416 := n3_; have BK398 := n4_; have BK408 := n5_; have BK413 := n6_; have HB := n7_; clear n0_ n1_ n2_ n3_ n4_ n5_ n6_ n7_; have hczqgb398_0 : w44.cell? ⟨gb398, 0, none⟩ = some (.int .i64 0) := (za BK398.out 0).trans rfl; have hfzqgb398_0 := zb BK398.out 0; have hczqgb398_1 : w44.cell? ⟨gb398, 1, none⟩ = some (.slice none 0 0) := (za BK398.out 1).trans rfl; have hfzqgb398_1 := zb BK398.out 1; have hczqgb408_0 : w44.cell? ⟨gb408, 0, none⟩ = some (.int .i64 t403) := (za BK408.out 0).trans rfl; have hfzqgb408_0 := zb BK408.out 0; have hczqgb408_1 : w44.cell? ⟨gb408, 1, none⟩ = some (.slice Ao37 t404.length co37) := (za BK408.out 1).trans rfl; have hfzqgb408_1 := zb BK408.out 1; have hczqgb413_0 : w44.cell? ⟨gb413, 0, none⟩ = some (.int .i64 t409) := (za BK413.out 0).trans rfl; have hfzqgb413_0 := zb BK413.out 0; have hczqgb413_1 : w44.cell? ⟨gb413, 1, none⟩ = some (.slice Ao43 t410.length co43) := (za BK413.out 1).trans rfl; have hfzqgb413_1 := zb BK413.out 1)); have hcz46_0 : w44.cell? ⟨gb398, 0, none⟩ = some (.int .i64 0) := (za BK398.out 0).trans rfl; have hcz46_1 : w44.cell? ⟨gb398, 1, none⟩ = some (.slice none 0 0) := (za BK398.out 1).trans rfl; have hfz46_0 := zb BK398.out 0; have hfz46_1 := zb BK398.out 1))
    refine bodyPost_ret (qz rfl _ _ gb398 24 #[.int .i64 0, .slice none 0 0] (0, 0) _ rfl (by refine sqK ?_; refine zF (cs := #[.int .i64 0, .slice none 0 0]) ?_ 1 _ rfl; refine sqK ?_; refine zF (cs := #[.int .i64 0, .slice none 0 0]) ?_ 0 _ rfl; refine sqK ?_; exact BK398.out) Tryz.underlying24 rfl (by kernel_rfl)) rfl ?_
    exact ⟨_, sqE, sqN, sqB⟩
  ·replace c8 := Bool.eq_false_iff.mpr c8
   subst c8
   have H1 : (some (0, ([] : List Int), false)) = some (r1, r2, r3) := by rw [if_neg (show ¬ (false = true) by decide)] at H; exact H
   clear H
   have H := H1
   clear H1
   simp only [Option.some.injEq, Prod.mk.injEq] at H
   obtain ⟨rfl, rfl, rfl⟩ := H
   go_enter Tryz.func21, Tryz.ntmps21
   go_wp2_with (first | ((with_reducible refine zm (N := 4) rfl ?_); refine zq ?hg (N := 4) ?hd (cs := #[.int .i64 0, .slice none 0 0]) (t := 24) ?hr ?_; (case hd => rfl); (case hg => rfl); (case hr => exact sqG); intro gb398 hg w47 hbox hb; have n0_ := Aside0.mk (zc sqB hb); have n1_ := Aside0.mk (hbox); have n2_ := Aside0.mk ((sqS hg : w.heap.size ≤ gb398)); have n3_ := Aside0.mk ((sqS hg : w.heap.size ≤ gb398)); clear HB; have HB := n0_; have BK398 := n1_; have GW398 := n2_; have GE398 := n3_; clear n0_ n1_ n2_ n3_; clear hb hbox hg) | ((with_reducible refine ze (f := 19) rfl ?_); refine zv (some 11) rfl rfl Tryz.func19 (by kernel_rfl) rfl #[.int .i64 a0, .slice A1 l1.length c1] rfl sqM ?_; (with_reducible refine (zJ.calls k a0 _ _ l1 true _ ?side1 ?side2 A3.out).mono ?_); (case side1 => exact sqC (Kd.zt HR1.out HB.out)); (case side2 => exact HC1.out); rintro e w' ⟨rfl, ⟨nd, rfl⟩⟩; refine ⟨_, rfl, ?_⟩; (try (rw [qO w47]; generalize hq_ : World.drewN w47 _ = w47; have n0_ : Aside0 (w47.heap[gb398]? = some (.cells #[.int .i64 0, .slice none 0 0] 24 (0, 0))) := ⟨by rw [← hq_]; exact (sqK BK398.out)⟩; have n1_ : Aside0 (Below w.heap.size w w47) := ⟨by rw [← hq_]; exact sqB⟩; clear BK398 HB hq_; have BK398 := n0_; have HB := n1_; clear n0_ n1_; have hczqgb398_0 : w47.cell? ⟨gb398, 0, none⟩ = some (.int .i64 0) := (za BK398.out 0).trans rfl; have hfzqgb398_0 := zb BK398.out 0; have hczqgb398_1 : w47.cell? ⟨gb398, 1, none⟩ = some (.slice none 0 0) := (za BK398.out 1).trans rfl; have hfzqgb398_1 := zb BK398.out 1))) | ((with_reducible refine ze (f := 38) rfl ?_); refine zv (some 18) rfl rfl Tryz.func38 (by kernel_rfl) rfl #[.int .i64 a0, .slice A1 l1.length c1] rfl sqM ?_; (with_reducible refine (zI.calls k a0 _ _ l1 t400 _ ?side1 ?side2 A5.out).mono ?_); (case side1 => exact sqC (Kd.zt HR1.out HB.out)); (case side2 => exact HC1.out); rintro e w48 ⟨v401, rfl, ho0, hb⟩; refine ⟨_, rfl, ?_⟩; have n0_ := Aside0.mk (Kd.zD ho0 (zh sqB)); have n1_ := Aside0.mk (zd (g := gb398) (o := .cells #[.int .i64 0, .slice none 0 0] 24 (0, 0)) (sqK BK398.out) hb); have n2_ := Aside0.mk (zc sqB hb); clear BK398; clear HB; have HO402 := n0_; have BK398 := n1_; have HB := n2_; clear n0_ n1_ n2_; (try clear hb); (try clear hb2); (try clear hk); (try clear hi); (try clear ho0); obtain ⟨Ao49, co49, eo49⟩ := Kd.zK HO402.out; subst eo49) | ((with_reducible refine ze (f := 37) rfl ?_); refine zv (some 19) rfl rfl Tryz.func37 (by kernel_rfl) rfl #[.int .i64 a0, .slice Ao49 t400.length co49] rfl sqM ?_; (with_reducible refine (zW.calls k a0 _ _ t400 t403 t404 false _ ?side1 ?side2 A6.out).mono ?_); (case side1 => exact sqC (Kd.zg HO402.out).2.2); (case side2 => exact (Kd.zg HO402.out).2.1); rintro e w50 ⟨v405, rfl, ho0, hb⟩; refine ⟨_, rfl, ?_⟩; have n0_ := Aside0.mk (Kd.zw (sqR HO402.out) (Kd.zQ ho0) hb); have n1_ := Aside0.mk (Kd.zD (Kd.zP ho0 (Kd.qt (sqR HO402.out))) (zh sqB)); have n2_ := Aside0.mk (zd (g := gb398) (o := .cells #[.int .i64 0, .slice none 0 0] 24 (0, 0)) (sqK BK398.out) hb); have n3_ := Aside0.mk (zc sqB hb); clear HO402; clear BK398; clear HB; have HO402 := n0_; have HO406 := n1_; have BK398 := n2_; have HB := n3_; clear n0_ n1_ n2_ n3_; (try clear hb); (try clear hb2); (try clear hk); (try clear hi); (try clear ho0)) | ((with_reducible refine zm (N := 6) rfl ?_); refine zq ?hg (N := 6) ?hd (cs := #[.int .i64 0, .slice none 0 0]) (t := 24) ?hr ?_; (case hd => rfl); (case hg => rfl); (case hr => exact sqG); intro gb408 hg w51 hbox hb; have n0_ := Aside0.mk (Kd.zx (sqR HO402.out) hb); have n1_ := Aside0.mk (Kd.zx (sqR HO406.out) hb); have n2_ := Aside0.mk (zd (g := gb398) (o := .cells #[.int .i64 0, .slice none 0 0] 24 (0, 0)) (sqK BK398.out) hb); have n3_ := Aside0.mk (zc sqB hb); have n4_ := Aside0.mk (hbox); have n5_ := Aside0.mk ((sqS hg : w.heap.size ≤ gb408)); have n6_ := Aside0.mk ((sqS hg : w.heap.size ≤ gb408)); have n7_ := Aside0.mk ((by rw [hg]; exact Nat.ne_of_lt (zU (g := gb398) (o := .cells #[.int .i64 0, .slice none 0 0] 24 (0, 0)) (sqK BK398.out)) : gb398 ≠ gb408)); have n8_ := Aside0.mk ((by rw [hg]; exact Nat.ne_of_gt (zU (g := gb398) (o := .cells #[.int .i64 0, .slice none 0 0] 24 (0, 0)) (sqK BK398.out)) : gb408 ≠ gb398)); clear HO402; clear HO406; clear BK398; clear HB; have HO402 := n0_; have HO406 := n1_; have BK398 := n2_; have HB := n3_; have BK408 := n4_; have GW408 := n5_; have GE408 := n6_; have NB398_408 := n7_; have NB408_398 := n8_; clear n0_ n1_ n2_ n3_ n4_ n5_ n6_ n7_ n8_; clear hb hbox hg; have hnb52 := NB408_398.out; have hnc52 := NB398_408.out; have hcz53_0 : w51.cell? ⟨gb408, 0, none⟩ = some (.int .i64 0) := (za BK408.out 0).trans rfl; have hcz53_1 : w51.cell? ⟨gb408, 1, none⟩ = some (.slice none 0 0) := (za BK408.out 1).trans rfl; have hfz53_0 := zb BK408.out 0; have hfz53_1 := zb BK408.out 1; obtain ⟨Ao54, co54, eo54⟩ := Kd.zK HO406.out; subst eo54) | ((with_reducible refine ze (f := 39) rfl ?_); refine zv (some 23) rfl rfl Tryz.func39 (by kernel_rfl) rfl #[.agg #[.int .i64 t403, .slice Ao54 t404.length co54]] rfl sqM ?_; (with_reducible refine (qJ.calls k t403 _ _ t404 t409 t410 _ ?side1 ?side2 A7.out).mono ?_); (case side1 => refine (Kd.zg (e := 3) (base := w.heap.size) (ok := fun k_ => (True ∧ some k_ ≠ (.slice Ao49 t400.length co49 : Value).ownBlock)) (n := t404.length) (c := co54) ?_).2.2; exact (by refine sqR ?_; exact (Kd.zn (Kd.zp (p := ⟨gb408, 1, none⟩) (Kd.zp (p := ⟨gb408, 0, none⟩) (Kd.zz HO406.out BK408.out (by decide)) (fun _ hk => hk.2) (.int .i64 t403)) (fun _ hk => hk.2) (.slice Ao54 t404.length co54)) (fun _ h_ => h_.1)))); (case side2 => exact (Kd.zg HO406.out).2.1); rintro e w55 ⟨v411, rfl, ho0, hb⟩; refine ⟨_, rfl, ?_⟩; have n0_ := Aside0.mk (Kd.zw (by refine sqR ?_; exact (Kd.zn (Kd.zp (p := ⟨gb408, 1, none⟩) (Kd.zp (p := ⟨gb408, 0, none⟩) (Kd.zz HO402.out BK408.out (by decide)) (fun _ hk => hk.2) (.int .i64 t403)) (fun _ hk => hk.2) (.slice Ao54 t404.length co54)) (fun _ h_ => h_.1))) (Kd.zQ ho0) hb); have n1_ := Aside0.mk (Kd.zw (by refine sqR ?_; exact (Kd.zn (Kd.zp (p := ⟨gb408, 1, none⟩) (Kd.zp (p := ⟨gb408, 0, none⟩) (Kd.zz HO406.out BK408.out (by decide)) (fun _ hk => hk.2) (.int .i64 t403)) (fun _ hk => hk.2) (.slice Ao54 t404.length co54)) (fun _ h_ => h_.1))) (Kd.zQ ho0) hb); have n2_ := Aside0.mk (Kd.zD (Kd.zP (Kd.zP ho0 (Kd.qt (by refine sqR ?_; exact (Kd.zn (Kd.zp (p := ⟨gb408, 1, none⟩) (Kd.zp (p := ⟨gb408, 0, none⟩) (Kd.zz HO402.out BK408.out (by decide)) (fun _ hk => hk.2) (.int .i64 t403)) (fun _ hk => hk.2) (.slice Ao54 t404.length co54)) (fun _ h_ => h_.1))))) (Kd.qt (by refine sqR ?_; exact (Kd.zn (Kd.zp (p := ⟨gb408, 1, none⟩) (Kd.zp (p := ⟨gb408, 0, none⟩) (Kd.zz HO406.out BK408.out (by decide)) (fun _ hk => hk.2) (.int .i64 t403)) (fun _ hk => hk.2) (.slice Ao54 t404.length co54)) (fun _ h_ => h_.1))))) (zh sqB)); have n3_ := Aside0.mk (zd (g := gb398) (o := .cells #[.int .i64 0, .slice none 0 0] 24 (0, 0)) (by refine sqK ?_; refine z6 ?_ NB398_408.out _; refine sqK ?_; refine z6 ?_ NB398_408.out _; refine sqK ?_; exact BK398.out) hb); have n4_ := Aside0.mk (zd (g := gb408) (o := .cells #[.int .i64 t403, .slice Ao54 t404.length co54] 24 (0, 0)) (by refine sqK ?_; refine zF (cs := #[.int .i64 t403, .slice none 0 0]) ?_ 1 _ rfl; refine sqK ?_; refine zF (cs := #[.int .i64 0, .slice none 0 0]) ?_ 0 _ rfl; refine sqK ?_; exact BK408.out) hb); have n5_ := Aside0.mk (zc sqB hb); clear HO402; clear HO406; clear BK398; clear BK408; clear HB; have HO402 := n0_; have HO406 := n1_; have HO412 := n2_; have BK398 := n3_; have BK408 := n4_; have HB := n5_; clear n0_ n1_ n2_ n3_ n4_ n5_; (try clear hb); (try clear hb2); (try clear hk); (try clear hi); (try clear ho0)) | ((with_reducible refine zm (N := 8) rfl ?_); refine zq ?hg (N := 8) ?hd (cs := #[.int .i64 0, .slice none 0 0]) (t := 24) ?hr ?_; (case hd => rfl); (case hg => rfl); (case hr => exact sqG); intro gb413 hg w56 hbox hb; have n0_ := Aside0.mk (Kd.zx (sqR HO402.out) hb); have n1_ := Aside0.mk (Kd.zx (sqR HO406.out) hb); have n2_ := Aside0.mk (Kd.zx (sqR HO412.out) hb); have n3_ := Aside0.mk (zd (g := gb398) (o := .cells #[.int .i64 0, .slice none 0 0] 24 (0, 0)) (sqK BK398.out) hb); have n4_ := Aside0.mk (zd (g := gb408) (o := .cells #[.int .i64 t403, .slice Ao54 t404.length co54] 24 (0, 0)) (sqK BK408.out) hb); have n5_ := Aside0.mk (zc sqB hb); have n6_ := Aside0.mk (hbox); have n7_ := Aside0.mk ((sqS hg : w.heap.size ≤ gb413)); have n8_ := Aside0.mk ((sqS hg : w.heap.size ≤ gb413)); have n9_ := Aside0.mk ((by rw [hg]; exact Nat.ne_of_lt (zU (g := gb398) (o := .cells #[.int .i64 0, .slice none 0 0] 24 (0, 0)) (sqK BK398.out)) : gb398 ≠ gb413)); have n10_ := Aside0.mk ((by rw [hg]; exact Nat.ne_of_gt (zU (g := gb398) (o := .cells #[.int .i64 0, .slice none 0 0] 24 (0, 0)) (sqK BK398.out)) : gb413 ≠ gb398)); have n11_ := Aside0.mk ((by rw [hg]; exact Nat.ne_of_lt (zU (g := gb408) (o := .cells #[.int .i64 t403, .slice Ao54 t404.length co54] 24 (0, 0)) (sqK BK408.out)) : gb408 ≠ gb413)); have n12_ := Aside0.mk ((by rw [hg]; exact Nat.ne_of_gt (zU (g := gb408) (o := .cells #[.int .i64 t403, .slice Ao54 t404.length co54] 24 (0, 0)) (sqK BK408.out)) : gb413 ≠ gb408)); clear HO402; clear HO406; clear HO412; clear BK398; clear BK408; clear HB; have HO402 := n0_; have HO406 := n1_; have HO412 := n2_; have BK398 := n3_; have BK408 := n4_; have HB := n5_; have BK413 := n6_; have GW413 := n7_; have GE413 := n8_; have NB398_413 := n9_; have NB413_398 := n10_; have NB408_413 := n11_; have NB413_408 := n12_; clear n0_ n1_ n2_ n3_ n4_ n5_ n6_ n7_ n8_ n9_ n10_ n11_ n12_; clear hb hbox hg; have hnb57 := NB413_398.out; have hnc57 := NB398_413.out; have hnb58 := NB413_408.out; have hnc58 := NB408_413.out; have hcz59_0 : w56.cell? ⟨gb413, 0, none⟩ = some (.int .i64 0) := (za BK413.out 0).trans rfl; have hcz59_1 : w56.cell? ⟨gb413, 1, none⟩ = some (.slice none 0 0) := (za BK413.out 1).trans rfl; have hfz59_0 := zb BK413.out 0; have hfz59_1 := zb BK413.out 1; obtain ⟨Ao60, co60, eo60⟩ := Kd.zK HO412.out; subst eo60; have hcz61_0 : w56.cell? ⟨gb398, 0, none⟩ = some (.int .i64 0) := (za BK398.out 0).trans rfl; have hcz61_1 : w56.cell? ⟨gb398, 1, none⟩ = some (.slice none 0 0) := (za BK398.out 1).trans rfl; have hfz61_0 := zb BK398.out 0; have hfz61_1 := zb BK398.out 1))
   refine bodyPost_ret (qz rfl _ _ gb398 24 #[.int .i64 0, .slice none 0 0] (0, 0) _ rfl (by refine sqK ?_; refine zF (cs := #[.int .i64 0, .slice none 0 0]) ?_ 1 _ rfl; refine sqK ?_; refine zF (cs := #[.int .i64 0, .slice none 0 0]) ?_ 0 _ rfl; refine sqK ?_; refine z6 ?_ NB398_413.out _; refine sqK ?_; refine z6 ?_ NB398_413.out _; refine sqK ?_; exact BK398.out) Tryz.underlying24 rfl (by kernel_rfl)) rfl ?_
   exact ⟨_, sqE, sqN, sqB⟩
 ·replace c4 := Bool.eq_false_iff.mpr c4
  subst c4
  have H1 : (some (0, ([] : List Int), false)) = some (r1, r2, r3) := by rw [if_neg (show ¬ (false = true) by decide)] at H; exact H
  clear H
  have H := H1
  clear H1
  simp only [Option.some.injEq, Prod.mk.injEq] at H
  obtain ⟨rfl, rfl, rfl⟩ := H
  go_enter Tryz.func21, Tryz.ntmps21
  go_wp2_with (first | ((with_reducible refine zm (N := 4) rfl ?_); refine zq ?hg (N := 4) ?hd (cs := #[.int .i64 0, .slice none 0 0]) (t := 24) ?hr ?_; (case hd => rfl); (case hg => rfl); (case hr => exact sqG); intro gb398 hg w62 hbox hb; have n0_ := Aside0.mk (zc sqB hb); have n1_ := Aside0.mk (hbox); have n2_ := Aside0.mk ((sqS hg : w.heap.size ≤ gb398)); have n3_ := Aside0.mk ((sqS hg : w.heap.size ≤ gb398)); clear HB; have HB := n0_; have BK398 := n1_; have GW398 := n2_; have GE398 := n3_; clear n0_ n1_ n2_ n3_; clear hb hbox hg) | ((with_reducible refine ze (f := 19) rfl ?_); refine zv (some 11) rfl rfl Tryz.func19 (by kernel_rfl) rfl #[.int .i64 a0, .slice A1 l1.length c1] rfl sqM ?_; (with_reducible refine (zJ.calls k a0 _ _ l1 false _ ?side1 ?side2 A3.out).mono ?_); (case side1 => exact sqC (Kd.zt HR1.out HB.out)); (case side2 => exact HC1.out); rintro e w' ⟨rfl, ⟨nd, rfl⟩⟩; refine ⟨_, rfl, ?_⟩; (try (rw [qO w62]; generalize hq_ : World.drewN w62 _ = w62; have n0_ : Aside0 (w62.heap[gb398]? = some (.cells #[.int .i64 0, .slice none 0 0] 24 (0, 0))) := ⟨by rw [← hq_]; exact (sqK BK398.out)⟩; have n1_ : Aside0 (Below w.heap.size w w62) := ⟨by rw [← hq_]; exact sqB⟩; clear BK398 HB hq_; have BK398 := n0_; have HB := n1_; clear n0_ n1_; have hczqgb398_0 : w62.cell? ⟨gb398, 0, none⟩ = some (.int .i64 0) := (za BK398.out 0).trans rfl; have hfzqgb398_0 := zb BK398.out 0; have hczqgb398_1 : w62.cell? ⟨gb398, 1, none⟩ = some (.slice none 0 0) := (za BK398.out 1).trans rfl; have hfzqgb398_1 := zb BK398.out 1)); have hcz63_0 : w62.cell? ⟨gb398, 0, none⟩ = some (.int .i64 0) := (za BK398.out 0).trans rfl; have hcz63_1 : w62.cell? ⟨gb398, 1, none⟩ = some (.slice none 0 0) := (za BK398.out 1).trans rfl; have hfz63_0 := zb BK398.out 0; have hfz63_1 := zb BK398.out 1))
  refine bodyPost_ret (qz rfl _ _ gb398 24 #[.int .i64 0, .slice none 0 0] (0, 0) _ rfl (by refine sqK ?_; refine zF (cs := #[.int .i64 0, .slice none 0 0]) ?_ 1 _ rfl; refine sqK ?_; refine zF (cs := #[.int .i64 0, .slice none 0 0]) ?_ 0 _ rfl; refine sqK ?_; exact BK398.out) Tryz.underlying24 rfl (by kernel_rfl)) rfl ?_
  exact ⟨_, sqE, sqN, sqB⟩

def zV.l0 : Nat → Int → List Int → List Int → List Int → Int → Int → Option (Int × List Int × Bool)
 | 0, _, _, _, _, _, _ => none
 | k + 1, x0, x1, x6, x17, x18, x19 => if x19 < x18 then (if 0 ≤ x19 then (if x19 < (x17.length : Int) then ((q4.f x0).bind fun t424 => (if (rd x17 x19) = t424 then (zV.l0 k x0 x1 x6 x17 x18 (wrap64 (x19 + 1))) else (if x6.length < 17592186044416 then (zV.l0 k x0 x1 (x6 ++ [rd x17 x19]) x17 x18 (wrap64 (x19 + 1))) else (none)))) else (none)) else (none)) else ((zH.f k x6).bind fun t428 => ((qR.f k x0 t428).bind fun bt431 => (if bt431.2.2 = true then ((jd.f k bt431.1 bt431.2.1).bind fun t437 => ((zr.f k t437 x1).bind fun t440 => (if t440 = true then (some (bt431.1, bt431.2.1, true)) else (some (0, ([] : List Int), false))))) else (some (0, ([] : List Int), false)))))
def zV.f (k : Nat) (a0 : Int) (l1 : List Int) : Option (Int × List Int × Bool) := (zJ.f k a0 l1).bind fun t419 => (if t419 = true then (zV.l0 k a0 l1 (([] : List Int)) l1 (l1.length : Int) 0) else (some (0, ([] : List Int), false)))
theorem zV.calls (k : Nat) (a0 : Int) (A1 : Option Addr) (c1 : Nat) (l1 : List Int) (r1 : Int) (r2 : List Int) (r3 : Bool) (w : World) (hr1 : Kd.C (Kd.int .i64) w A1 l1.length l1) (hc1 : l1.length ≤ c1) (h : zV.f k a0 l1 = some (r1, r2, r3)) :
  Calls Tryz.prog 6 #[.int .i64 a0, .slice A1 l1.length c1] w fun e w' => ∃ v1_ : Value, e = .returned (.tuple #[.agg #[.int .i64 r1, v1_], .bool r3]) ∧ Kd.R (Kd.int .i64) 3 w' w.heap.size (fun _ => True) v1_ r2 ∧ Below w.heap.size w w' := by
 have hu24 := Tryz.underlying24
 have HR1 := Aside0.mk hr1
 have HC1 := Aside0.mk hc1
 clear hr1 hc1
 have HB := Aside0.mk (Below.refl w.heap.size w)
 have H : ((zJ.f k a0 l1).bind fun t419 => (if t419 = true then (zV.l0 k a0 l1 (([] : List Int)) l1 (l1.length : Int) 0) else (some (0, ([] : List Int), false)))) = some (r1, r2, r3) := h
 clear h
 replace H := Option.bind_eq_some_iff.mp H
 obtain ⟨t419, A30, H⟩ := H
 replace H : (if t419 = true then (zV.l0 k a0 l1 (([] : List Int)) l1 (l1.length : Int) 0) else (some (0, ([] : List Int), false))) = some (r1, r2, r3) := H
 have A3 := Aside0.mk A30
 clear A30
 by_cases c4 : t419 = true
 ·subst c4
  have H1 : (zV.l0 k a0 l1 (([] : List Int)) l1 (l1.length : Int) 0) = some (r1, r2, r3) := by rw [if_pos rfl] at H; exact H
  clear H
  have H := H1
  clear H1
  obtain ⟨y420, hy420⟩ : ∃ y_ : List Int, y_ = (([] : List Int)) := ⟨_, rfl⟩
  replace H : (zV.l0 k a0 l1 y420 l1 (l1.length : Int) 0) = some (r1, r2, r3) := by first | (rw [hy420]; with_reducible exact H) | (have H2_ := (Option.bind_some _ _).symm.trans H; rw [hy420]; with_reducible exact H2_) | (have H2_ := (Option.bind_some _ _).symm.trans H; with_reducible exact H2_) | with_reducible exact H | (rw [hy420]; exact H) | exact H
  have Ny420 := Aside0.mk hy420
  clear hy420
  have H' := Aside0.mk H
  clear H
  go_enter Tryz.func6, Tryz.ntmps6
  go_wp2_with (first | ((with_reducible refine zm (N := 4) rfl ?_); refine zq ?hg (N := 4) ?hd (cs := #[.int .i64 0, .slice none 0 0]) (t := 24) ?hr ?_; (case hd => rfl); (case hg => rfl); (case hr => exact sqG); intro gb418 hg w5 hbox hb; have n0_ := Aside0.mk (zc sqB hb); have n1_ := Aside0.mk (hbox); have n2_ := Aside0.mk ((sqS hg : w.heap.size ≤ gb418)); have n3_ := Aside0.mk ((sqS hg : w.heap.size ≤ gb418)); clear HB; have HB := n0_; have BK418 := n1_; have GW418 := n2_; have GE418 := n3_; clear n0_ n1_ n2_ n3_; clear hb hbox hg) | ((with_reducible refine ze (f := 19) rfl ?_); refine zv (some 13) rfl rfl Tryz.func19 (by kernel_rfl) rfl #[.int .i64 a0, .slice A1 l1.length c1] rfl sqM ?_; (with_reducible refine (zJ.calls k a0 _ _ l1 true _ ?side1 ?side2 A3.out).mono ?_); (case side1 => exact sqC (Kd.zt HR1.out HB.out)); (case side2 => exact HC1.out); rintro e w' ⟨rfl, ⟨nd, rfl⟩⟩; refine ⟨_, rfl, ?_⟩) | ((with_reducible refine zm (N := 16) rfl ?_); refine Kd.jy (Kd.int .i64) _ 3 ?hg (N := 16) ?hd (xs := ([] : List Int)) (inner := []) (ok := fun _ => True) (okp := fun _ => True) ?hr ?hp (fun _ hk => hk) trivial (Below.refl _ _) (Nat.le_refl _) (by simp) ?_; (case hd => rfl); (case hg => rfl); (case hr => exact sqG); (case hp => exact (qK.none _ _)); intro v421 w6 ho7 hb hg_ hnew_; clear hg_ hnew_; (first | rw [← Ny420.out] at ho7 | (simp only [Int.reduceToNat] at ho7; rw [← Ny420.out] at ho7)); have n0_ := Aside0.mk (Kd.zD ho7 (zh sqB)); have n1_ := Aside0.mk (zd (g := gb418) (o := .cells #[.int .i64 0, .slice none 0 0] 24 (0, 0)) (sqK BK418.out) hb); have n2_ := Aside0.mk (zc sqB hb); clear BK418; clear HB; have HO422 := n0_; have BK418 := n1_; have HB := n2_; clear n0_ n1_ n2_; clear hb ho7))
  go_loopg [6, 19] k (fun kq v6 v19 w' => ∃ (x6_1 : List Int) (x19_1 : Int), v19 = .int .i64 x19_1 ∧ Aside0 (zV.l0 kq a0 l1 x6_1 l1 (l1.length : Int) x19_1 = some (r1, r2, r3)) ∧ Aside0 (kq ≤ k) ∧ Aside0 (Kd.R (Kd.int .i64) 3 w' w.heap.size (fun _ => True) v6 x6_1) ∧ Aside0 (w'.heap[gb418]? = some (.cells #[.int .i64 0, (.slice none 0 0)] 24 (0, 0))) ∧ Aside0 (Below w.heap.size w w'))
  case atStart => exact ⟨(y420), (0), (sqD), H', ⟨Nat.le_refl _⟩, ⟨sqR HO422.out⟩, ⟨sqK BK418.out⟩, ⟨sqB⟩⟩
  case round =>
   clear H'
   try clear c1
   try clear p2
   try clear c4
   try clear c6
   obtain ⟨x6_1, x19_1, rfl, HA, HK1, HO_6, BK418, HB⟩ := hrel
   cases gk with
   | zero => exact absurd HA.out (by simp [zV.l0])
   | succ k1 =>
    have H := HA.out
    clear HA
    simp only [zV.l0] at H
    by_cases c8 : x19_1 < (l1.length : Int)
    ·rw [if_pos c8] at H
     have c8b0 : decide (x19_1 < (l1.length : Int)) = true := decide_eq_true c8
     clear c8
     by_cases c9 : 0 ≤ x19_1
     ·rw [if_pos c9] at H
      have c9b0 : decide (0 ≤ x19_1) = true := decide_eq_true c9
      clear c9
      by_cases c10 : x19_1 < (l1.length : Int)
      ·rw [if_pos c10] at H
       have c10b0 : decide (x19_1 < (l1.length : Int)) = true := decide_eq_true c10
       clear c10
       replace H := Option.bind_eq_some_iff.mp H
       obtain ⟨t424, A110, H⟩ := H
       replace H : (if (rd l1 x19_1) = t424 then (zV.l0 k1 a0 l1 x6_1 l1 (l1.length : Int) (wrap64 (x19_1 + 1))) else (if x6_1.length < 17592186044416 then (zV.l0 k1 a0 l1 (x6_1 ++ [rd l1 x19_1]) l1 (l1.length : Int) (wrap64 (x19_1 + 1))) else (none))) = some (r1, r2, r3) := H
       have A11 := Aside0.mk A110
       clear A110
       by_cases c12 : (rd l1 x19_1) = t424
       ·rw [if_pos c12] at H
        have c12b0 : ((rd l1 x19_1) == t424) = true := beq_iff_eq.mpr c12
        have c12b1 : ((rd l1 x19_1) != t424) = false := bne_eq_false_iff_eq.mpr c12
        clear c12
        have H' := Aside0.mk H
        clear H
        have p423 : 0 ≤ (x19_1 : Int) := of_decide_eq_true sqA
        have q423 : x19_1 < (l1.length : Int) := of_decide_eq_true sqA
        obtain ⟨ad423, e423, hx423_0⟩ := Kd.zT HR1.out x19_1 p423 q423
        cases e423
        replace hx423_0 := (HB.out.cell (World.block_lt_of_cell? w _ hx423_0)).trans hx423_0
        replace p423 := eq_true p423
        replace q423 := eq_true q423
        go_wp2_with (first | ((with_reducible refine ze (f := 20) rfl ?_); refine zv (some 25) rfl rfl Tryz.func20 (by kernel_rfl) rfl #[.int .i64 a0] rfl sqM ?_; (with_reducible refine (q4.calls a0 t424 _ A11.out).mono ?_); rintro e w' ⟨rfl, ⟨nd, rfl⟩⟩; refine ⟨_, rfl, ?_⟩))
        go_roundg k1
        case measure => have := HK1.out; omega
        case rel => exact ⟨(x6_1), (wrap64 (x19_1 + 1)), (sqD), H', ⟨by have := HK1.out; omega⟩, ⟨sqR HO_6.out⟩, ⟨sqK BK418.out⟩, ⟨sqB⟩⟩
       ·rw [if_neg c12] at H
        have c12b0 : ((rd l1 x19_1) == t424) = false := beq_eq_false_iff_ne.mpr c12
        have c12b1 : ((rd l1 x19_1) != t424) = true := bne_iff_ne.mpr c12
        by_cases c13 : x6_1.length < 17592186044416
        ·rw [if_pos c13] at H
         have LMc13 := Aside0.mk c13
         clear c13
         obtain ⟨y425, hy425⟩ : ∃ y_ : List Int, y_ = (x6_1 ++ [rd l1 x19_1]) := ⟨_, rfl⟩
         replace H : (zV.l0 k1 a0 l1 y425 l1 (l1.length : Int) (wrap64 (x19_1 + 1))) = some (r1, r2, r3) := by first | (rw [hy425]; with_reducible exact H) | (have H2_ := (Option.bind_some _ _).symm.trans H; rw [hy425]; with_reducible exact H2_) | (have H2_ := (Option.bind_some _ _).symm.trans H; with_reducible exact H2_) | with_reducible exact H | (rw [hy425]; exact H) | exact H
         have Ny425 := Aside0.mk hy425
         clear hy425
         have H' := Aside0.mk H
         clear H
         have p423 : 0 ≤ (x19_1 : Int) := of_decide_eq_true sqA
         have q423 : x19_1 < (l1.length : Int) := of_decide_eq_true sqA
         obtain ⟨ad423, e423, hx423_0⟩ := Kd.zT HR1.out x19_1 p423 q423
         cases e423
         replace hx423_0 := (HB.out.cell (World.block_lt_of_cell? w _ hx423_0)).trans hx423_0
         replace p423 := eq_true p423
         replace q423 := eq_true q423
         go_wp2_with (first | ((with_reducible refine ze (f := 20) rfl ?_); refine zv (some 25) rfl rfl Tryz.func20 (by kernel_rfl) rfl #[.int .i64 a0] rfl sqM ?_; (with_reducible refine (q4.calls a0 t424 _ A11.out).mono ?_); rintro e w' ⟨rfl, ⟨nd, rfl⟩⟩; refine ⟨_, rfl, ?_⟩) | ((with_reducible refine qB (b := .append) (xs := #[.tmp 27, .tmp 29]) rfl ?_); at_builtin; refine Kd.ji (Kd.int .i64) (w0 := w) w.heap.size rfl (.tmp 27) (.tmp 29) 22 3 (.int .i64 0) 8 rfl Tryz.underlying22 jH rfl (by decide) (by omega) u6 x6_1 (rd l1 x19_1) [.int .i64 (rd l1 x19_1)] (fun _ => True) (fun _ => False) rfl rfl ?aP (fun _ hk => hk.elim) ?aF ?aO ?aB ?aS ?aL ?_; (case aP => exact rfl); (case aB => exact sqB); (case aF => exact (fun _ _ => trivial)); (case aO => exact (sqR HO_6.out)); (case aS => exact (zh sqB)); (case aL => have := LMc13.out; omega); intro v426 w14 ho hb hg hat; rw [← Ny425.out] at ho; have n0_ := Aside0.mk (vz (g := gb418) (o := .cells #[.int .i64 0, .slice none 0 0] 24 (0, 0)) (sqK BK418.out) hg (Kd.Qt HO_6.out BK418.out (by decide))); have n1_ := Aside0.mk (hb); have n2_ := Aside0.mk (ho); clear BK418; clear HB; clear HO_6; have BK418 := n0_; have HB := n1_; have HO427 := n2_; clear n0_ n1_ n2_; clear ho hb hg hat))
         go_roundg k1
         case measure => have := HK1.out; omega
         case rel => exact ⟨(y425), (wrap64 (x19_1 + 1)), (sqD), H', ⟨by have := HK1.out; omega⟩, ⟨sqR HO427.out⟩, ⟨sqK BK418.out⟩, ⟨sqB⟩⟩
        ·rw [if_neg c13] at H
         exact absurd H (by simp)
      ·rw [if_neg c10] at H
       exact absurd H (by simp)
     ·rw [if_neg c9] at H
      exact absurd H (by simp)
    ·rw [if_neg c8] at H
     have c8b0 : decide (x19_1 < (l1.length : Int)) = false := decide_eq_false c8
     clear c8
     replace H := Option.bind_eq_some_iff.mp H
     obtain ⟨t428, A150, H⟩ := H
     replace H : ((qR.f k1 a0 t428).bind fun bt431 => (if bt431.2.2 = true then ((jd.f k1 bt431.1 bt431.2.1).bind fun t437 => ((zr.f k1 t437 l1).bind fun t440 => (if t440 = true then (some (bt431.1, bt431.2.1, true)) else (some (0, ([] : List Int), false))))) else (some (0, ([] : List Int), false)))) = some (r1, r2, r3) := H
     have A15 := Aside0.mk A150
     clear A150
     replace H := Option.bind_eq_some_iff.mp H
     obtain ⟨⟨t431, t432, t435⟩, A160, H⟩ := H
     replace H : (if t435 = true then ((jd.f k1 t431 t432).bind fun t437 => ((zr.f k1 t437 l1).bind fun t440 => (if t440 = true then (some (t431, t432, true)) else (some (0, ([] : List Int), false))))) else (some (0, ([] : List Int), false))) = some (r1, r2, r3) := H
     have A16 := Aside0.mk A160
     clear A160
     by_cases c17 : t435 = true
     ·subst c17
      have H1 : ((jd.f k1 t431 t432).bind fun t437 => ((zr.f k1 t437 l1).bind fun t440 => (if t440 = true then (some (t431, t432, true)) else (some (0, ([] : List Int), false))))) = some (r1, r2, r3) := by rw [if_pos rfl] at H; exact H
      clear H
      have H := H1
      clear H1
      replace H := Option.bind_eq_some_iff.mp H
      obtain ⟨t437, A180, H⟩ := H
      replace H : ((zr.f k1 t437 l1).bind fun t440 => (if t440 = true then (some (t431, t432, true)) else (some (0, ([] : List Int), false)))) = some (r1, r2, r3) := H
      have A18 := Aside0.mk A180
      clear A180
      replace H := Option.bind_eq_some_iff.mp H
      obtain ⟨t440, A190, H⟩ := H
      replace H : (if t440 = true then (some (t431, t432, true)) else (some (0, ([] : List Int), false))) = some (r1, r2, r3) := H
      have A19 := Aside0.mk A190
      clear A190
      by_cases c20 : t440 = true
      ·subst c20
       have H1 : (some (t431, t432, true)) = some (r1, r2, r3) := by rw [if_pos rfl] at H; exact H
       clear H
       have H := H1
       clear H1
       simp only [Option.some.injEq, Prod.mk.injEq] at H
       obtain ⟨rfl, rfl, rfl⟩ := H
       obtain ⟨Ao21, co21, eo21⟩ := Kd.zK HO_6.out
       subst eo21
       go_wp2_with (first | ((with_reducible refine ze (f := 22) rfl ?_); refine zv (some 35) rfl rfl Tryz.func22 (by kernel_rfl) rfl #[.slice Ao21 x6_1.length co21] rfl sqM ?_; (with_reducible refine (zH.calls k1 _ _ x6_1 t428 _ ?side1 ?side2 A15.out).mono ?_); (case side1 => exact sqC (Kd.zg HO_6.out).2.2); (case side2 => exact (Kd.zg HO_6.out).2.1); rintro e w22 ⟨v429, rfl, ho0, hb⟩; refine ⟨_, rfl, ?_⟩; have n0_ := Aside0.mk (Kd.zw (sqR HO_6.out) (Kd.zQ ho0) hb); have n1_ := Aside0.mk (Kd.zD (Kd.zP ho0 (Kd.qt (sqR HO_6.out))) (zh sqB)); have n2_ := Aside0.mk (zd (g := gb418) (o := .cells #[.int .i64 0, .slice none 0 0] 24 (0, 0)) (sqK BK418.out) hb); have n3_ := Aside0.mk (zc sqB hb); clear HO_6; clear BK418; clear HB; have HO_6 := n0_; have HO430 := n1_; have BK418 := n2_; have HB := n3_; clear n0_ n1_ n2_ n3_; (try clear hb); (try clear hb2); (try clear hk); (try clear hi); (try clear ho0); obtain ⟨Ao23, co23, eo23⟩ := Kd.zK HO430.out; subst eo23) | ((with_reducible refine ze (f := 21) rfl ?_); refine zv (some 36) rfl rfl Tryz.func21 (by kernel_rfl) rfl #[.int .i64 a0, .slice Ao23 t428.length co23] rfl sqM ?_; (with_reducible refine (qR.calls k1 a0 _ _ t428 t431 t432 true _ ?side1 ?side2 A16.out).mono ?_); (case side1 => exact sqC (Kd.zg HO430.out).2.2); (case side2 => exact (Kd.zg HO430.out).2.1); rintro e w24 ⟨v433, rfl, ho0, hb⟩; refine ⟨_, rfl, ?_⟩; have n0_ := Aside0.mk (Kd.zw (sqR HO_6.out) (Kd.zQ ho0) hb); have n1_ := Aside0.mk (Kd.zw (sqR HO430.out) (Kd.zQ ho0) hb); have n2_ := Aside0.mk (Kd.zD (Kd.zP (Kd.zP ho0 (Kd.qt (sqR HO_6.out))) (Kd.qt (sqR HO430.out))) (zh sqB)); have n3_ := Aside0.mk (zd (g := gb418) (o := .cells #[.int .i64 0, .slice none 0 0] 24 (0, 0)) (sqK BK418.out) hb); have n4_ := Aside0.mk (zc sqB hb); clear HO_6; clear HO430; clear BK418; clear HB; have HO_6 := n0_; have HO430 := n1_; have HO434 := n2_; have BK418 := n3_; have HB := n4_; clear n0_ n1_ n2_ n3_ n4_; (try clear hb); (try clear hb2); (try clear hk); (try clear hi); (try clear ho0)) | ((with_reducible refine zm (N := 9) rfl ?_); refine zq ?hg (N := 9) ?hd (cs := #[.int .i64 0, .slice none 0 0]) (t := 24) ?hr ?_; (case hd => rfl); (case hg => rfl); (case hr => exact sqG); intro gb436 hg w25 hbox hb; have n0_ := Aside0.mk (Kd.zx (sqR HO_6.out) hb); have n1_ := Aside0.mk (Kd.zx (sqR HO430.out) hb); have n2_ := Aside0.mk (Kd.zx (sqR HO434.out) hb); have n3_ := Aside0.mk (zd (g := gb418) (o := .cells #[.int .i64 0, .slice none 0 0] 24 (0, 0)) (sqK BK418.out) hb); have n4_ := Aside0.mk (zc sqB hb); have n5_ := Aside0.mk (hbox); have n6_ := Aside0.mk ((sqS hg : w.heap.size ≤ gb436)); have n7_ := Aside0.mk ((sqS hg : w.heap.size ≤ gb436)); have n8_ := Aside0.mk ((by rw [hg]; exact Nat.ne_of_lt (zU (g := gb418) (o := .cells #[.int .i64 0, .slice none 0 0] 24 (0, 0)) (sqK BK418.out)) : gb418 ≠ gb436)); have n9_ := Aside0.mk ((by rw [hg]; exact Nat.ne_of_gt (zU (g := gb418) (o := .cells #[.int .i64 0, .slice none 0 0] 24 (0, 0)) (sqK BK418.out)) : gb436 ≠ gb418)); clear HO_6; clear HO430; clear HO434; clear BK418; clear HB; have HO_6 := n0_; have HO430 := n1_; have HO434 := n2_; have BK418 := n3_; have HB := n4_; have BK436 := n5_; have GW436 := n6_; have GE436 := n7_; have NB418_436 := n8_; have NB436_418 := n9_; clear n0_ n1_ n2_ n3_ n4_ n5_ n6_ n7_ n8_ n9_; clear hb hbox hg; have hnb26 := NB436_418.out; have hnc26 := NB418_436.out; have hcz27_0 : w25.cell? ⟨gb436, 0, none⟩ = some (.int .i64 0) := (za BK436.out 0).trans rfl; have hcz27_1 : w25.cell? ⟨gb436, 1, none⟩ = some (.slice none 0 0) := (za BK436.out 1).trans rfl; have hfz27_0 := zb BK436.out 0; have hfz27_1 := zb BK436.out 1; obtain ⟨Ao28, co28, eo28⟩ := Kd.zK HO434.out; subst eo28) | (go_at_call 24; (try simp only [zi, zj]); (with_reducible refine (jd.calls k1 t431 _ _ t432 t437 _ ?side1 ?side2 A18.out).mono ?_); (case side1 => refine (Kd.zg (e := 3) (base := w.heap.size) (ok := fun k_ => ((True ∧ some k_ ≠ (.slice Ao21 x6_1.length co21 : Value).ownBlock) ∧ some k_ ≠ (.slice Ao23 t428.length co23 : Value).ownBlock)) (n := t432.length) (c := co28) ?_).2.2; exact (by refine sqR ?_; exact (Kd.zn (Kd.zp (p := ⟨gb436, 1, none⟩) (Kd.zp (p := ⟨gb436, 0, none⟩) (Kd.zz HO434.out BK436.out (by decide)) (fun _ hk => hk.2) (.int .i64 t431)) (fun _ hk => hk.2) (.slice Ao28 t432.length co28)) (fun _ h_ => h_.1)))); (case side2 => exact (Kd.zg HO434.out).2.1); rintro e w29 ⟨v438, rfl, ho0, hb⟩; have n0_ := Aside0.mk (Kd.zw (by refine sqR ?_; exact (Kd.zn (Kd.zp (p := ⟨gb436, 1, none⟩) (Kd.zp (p := ⟨gb436, 0, none⟩) (Kd.zz HO_6.out BK436.out (by decide)) (fun _ hk => hk.2) (.int .i64 t431)) (fun _ hk => hk.2) (.slice Ao28 t432.length co28)) (fun _ h_ => h_.1))) (Kd.zQ ho0) hb); have n1_ := Aside0.mk (Kd.zw (by refine sqR ?_; exact (Kd.zn (Kd.zp (p := ⟨gb436, 1, none⟩) (Kd.zp (p := ⟨gb436, 0, none⟩) (Kd.zz HO430.out BK436.out (by decide)) (fun _ hk => hk.2) (.int .i64 t431)) (fun _ hk => hk.2) (.slice Ao28 t432.length co28)) (fun _ h_ => h_.1))) (Kd.zQ ho0) hb); have n2_ := Aside0.mk (Kd.zw (by refine sqR ?_; exact (Kd.zn (Kd.zp (p := ⟨gb436, 1, none⟩) (Kd.zp (p := ⟨gb436, 0, none⟩) (Kd.zz HO434.out BK436.out (by decide)) (fun _ hk => hk.2) (.int .i64 t431)) (fun _ hk => hk.2) (.slice Ao28 t432.length co28)) (fun _ h_ => h_.1))) (Kd.zQ ho0) hb); have n3_ := Aside0.mk (Kd.zD (Kd.zP (Kd.zP (Kd.zP ho0 (Kd.qt (by refine sqR ?_; exact (Kd.zn (Kd.zp (p := ⟨gb436, 1, none⟩) (Kd.zp (p := ⟨gb436, 0, none⟩) (Kd.zz HO_6.out BK436.out (by decide)) (fun _ hk => hk.2) (.int .i64 t431)) (fun _ hk => hk.2) (.slice Ao28 t432.length co28)) (fun _ h_ => h_.1))))) (Kd.qt (by refine sqR ?_; exact (Kd.zn (Kd.zp (p := ⟨gb436, 1, none⟩) (Kd.zp (p := ⟨gb436, 0, none⟩) (Kd.zz HO430.out BK436.out (by decide)) (fun _ hk => hk.2) (.int .i64 t431)) (fun _ hk => hk.2) (.slice Ao28 t432.length co28)) (fun _ h_ => h_.1))))) (Kd.qt (by refine sqR ?_; exact (Kd.zn (Kd.zp (p := ⟨gb436, 1, none⟩) (Kd.zp (p := ⟨gb436, 0, none⟩) (Kd.zz HO434.out BK436.out (by decide)) (fun _ hk => hk.2) (.int .i64 t431)) (fun _ hk => hk.2) (.slice Ao28 t432.length co28)) (fun _ h_ => h_.1))))) (zh sqB)); have n4_ := Aside0.mk (zd (g := gb418) (o := .cells #[.int .i64 0, .slice none 0 0] 24 (0, 0)) (by refine sqK ?_; refine z6 ?_ NB418_436.out _; refine sqK ?_; refine z6 ?_ NB418_436.out _; refine sqK ?_; exact BK418.out) hb); have n5_ := Aside0.mk (zd (g := gb436) (o := .cells #[.int .i64 t431, .slice Ao28 t432.length co28] 24 (0, 0)) (by refine sqK ?_; refine zF (cs := #[.int .i64 t431, .slice none 0 0]) ?_ 1 _ rfl; refine sqK ?_; refine zF (cs := #[.int .i64 0, .slice none 0 0]) ?_ 0 _ rfl; refine sqK ?_; exact BK436.out) hb); have n6_ := Aside0.mk (zc sqB hb); clear HO_6; clear HO430; clear HO434; clear BK418; clear BK436; clear HB; have HO_6 := n0_; have HO430 := n1_; have HO434 := n2_; have HO439 := n3_; have BK418 := n4_; have BK436 := n5_; have HB := n6_; clear n0_ n1_ n2_ n3_ n4_ n5_ n6_; (try clear hb); (try clear hb2); (try clear hk); (try clear hi); (try clear ho0); obtain ⟨Ao30, co30, eo30⟩ := Kd.zK HO439.out; subst eo30) | (go_at_call 23; (try simp only [zi, zj]); (with_reducible refine (zr.calls k1 _ _ t437 _ _ l1 true _ ?side1 ?side2 ?side3 ?side4 A19.out).mono ?_); (case side1 => exact sqC (Kd.zg HO439.out).2.2); (case side2 => exact (Kd.zg HO439.out).2.1); (case side3 => exact sqC (Kd.zt HR1.out HB.out)); (case side4 => exact HC1.out); rintro e w' ⟨rfl, ⟨nd, rfl⟩⟩; (try (rw [qO w29]; generalize hq_ : World.drewN w29 _ = w29; have n0_ : Aside0 (Kd.R (Kd.int .i64) 3 w29 w.heap.size (fun k_ => some k_ ≠ (.slice Ao28 t432.length co28 : Value).ownBlock ∧ some k_ ≠ (.slice Ao30 t437.length co30 : Value).ownBlock ∧ some k_ ≠ (.slice Ao21 x6_1.length co21 : Value).ownBlock) (.slice Ao23 t428.length co23) t428) := ⟨by rw [← hq_]; exact (by refine sqR ?_; exact Kd.zn HO430.out (fun _ hk => by first | exact ⟨hk.1.2, ⟨hk.2, hk.1.1.2⟩⟩ | (refine ⟨?_, ?_, ?_⟩ <;> intro e_ <;> simp only [e_, ne_eq, not_true_eq_false, and_false, false_and] at hk)))⟩; have n1_ : Aside0 (Kd.R (Kd.int .i64) 3 w29 w.heap.size (fun k_ => some k_ ≠ (.slice Ao23 t428.length co23 : Value).ownBlock ∧ some k_ ≠ (.slice Ao30 t437.length co30 : Value).ownBlock ∧ some k_ ≠ (.slice Ao21 x6_1.length co21 : Value).ownBlock) (.slice Ao28 t432.length co28) t432) := ⟨by rw [← hq_]; exact (by refine sqR ?_; exact Kd.zn HO434.out (fun _ hk => by first | exact ⟨hk.1.2, ⟨hk.2, hk.1.1.2⟩⟩ | (refine ⟨?_, ?_, ?_⟩ <;> intro e_ <;> simp only [e_, ne_eq, not_true_eq_false, and_false, false_and] at hk)))⟩; have n2_ : Aside0 (Kd.R (Kd.int .i64) 3 w29 w.heap.size (fun k_ => some k_ ≠ (.slice Ao23 t428.length co23 : Value).ownBlock ∧ some k_ ≠ (.slice Ao28 t432.length co28 : Value).ownBlock ∧ some k_ ≠ (.slice Ao21 x6_1.length co21 : Value).ownBlock) (.slice Ao30 t437.length co30) t437) := ⟨by rw [← hq_]; exact (by refine sqR ?_; exact Kd.zn HO439.out (fun _ hk => by first | exact ⟨hk.1.2, ⟨hk.2, hk.1.1.2⟩⟩ | (refine ⟨?_, ?_, ?_⟩ <;> intro e_ <;> simp only [e_, ne_eq, not_true_eq_false, and_false, false_and] at hk)))⟩; have n3_ : Aside0 (Kd.R (Kd.int .i64) 3 w29 w.heap.size (fun k_ => some k_ ≠ (.slice Ao23 t428.length co23 : Value).ownBlock ∧ some k_ ≠ (.slice Ao28 t432.length co28 : Value).ownBlock ∧ some k_ ≠ (.slice Ao30 t437.length co30 : Value).ownBlock) (.slice Ao21 x6_1.length co21) x6_1) := ⟨by rw [← hq_]; exact (by refine sqR ?_; exact Kd.zn HO_6.out (fun _ hk => by first | exact ⟨hk.1.1.2, ⟨hk.1.2, hk.2⟩⟩ | (refine ⟨?_, ?_, ?_⟩ <;> intro e_ <;> simp only [e_, ne_eq, not_true_eq_false, and_false, false_and] at hk)))⟩; have n4_ : Aside0 (w29.heap[gb418]? = some (.cells #[.int .i64 0, .slice none 0 0] 24 (0, 0))) := ⟨by rw [← hq_]; exact (sqK BK418.out)⟩; have n5_ : Aside0 (w29.heap[gb436]? = some (.cells #[.int .i64 t431, .slice Ao28 t432.length co28] 24 (0, 0))) := ⟨by rw [← hq_]; exact (sqK BK436.out)⟩; have n6_ : Aside0 (Below w.heap.size w w29) := ⟨by rw [← hq_]; exact sqB⟩; clear HO430 HO434 HO439 HO_6 BK418 BK436 HB hq_; have HO430 := n0_; have HO434 := n1_; have HO439 := n2_; have HO_6 := n3_; have BK418 := n4_; have BK436 := n5_; have HB := n6_; clear n0_ n1_ n2_ n3_ n4_ n5_ n6_; have hczqgb418_0 : w29.cell? ⟨gb418, 0, none⟩ = some (.int .i64 0) := (za BK418.out 0).trans rfl; have hfzqgb418_0 := zb BK418.out 0; have hczqgb418_1 : w29.cell? ⟨gb418, 1, none⟩ = some (.slice none 0 0) := (za BK418.out 1).trans rfl; have hfzqgb418_1 := zb BK418.out 1; have hczqgb436_0 : w29.cell? ⟨gb436, 0, none⟩ = some (.int .i64 t431) := (za BK436.out 0).trans rfl; have hfzqgb436_0 := zb BK436.out 0; have hczqgb436_1 : w29.cell? ⟨gb436, 1, none⟩ = some (.slice Ao28 t432.length co28) := (za BK436.out 1).trans rfl; have hfzqgb436_1 := zb BK436.out 1)); have hcz31_0 : w29.cell? ⟨gb436, 0, none⟩ = some (.int .i64 t431) := (za BK436.out 0).trans rfl; have hcz31_1 : w29.cell? ⟨gb436, 1, none⟩ = some (.slice Ao28 t432.length co28) := (za BK436.out 1).trans rfl; have hfz31_0 := zb BK436.out 0; have hfz31_1 := zb BK436.out 1; have hcz32_0 : w29.cell? ⟨gb418, 0, none⟩ = some (.int .i64 0) := (za BK418.out 0).trans rfl; have hcz32_1 : w29.cell? ⟨gb418, 1, none⟩ = some (.slice none 0 0) := (za BK418.out 1).trans rfl; have hfz32_0 := zb BK418.out 0; have hfz32_1 := zb BK418.out 1))
       refine bodyPost_ret (qz rfl _ _ gb418 24 #[.int .i64 t431, .slice Ao28 t432.length co28] (0, 0) _ rfl (by refine sqK ?_; refine zF (cs := #[.int .i64 t431, .slice none 0 0]) ?_ 1 _ rfl; refine sqK ?_; refine zF (cs := #[.int .i64 0, .slice none 0 0]) ?_ 0 _ rfl; refine sqK ?_; exact BK418.out) Tryz.underlying24 rfl (by kernel_rfl)) rfl ?_
       exact ⟨_, sqE, by refine sqR ?_; exact Kd.zn (Kd.zp (p := ⟨gb418, 1, none⟩) (Kd.zp (p := ⟨gb418, 0, none⟩) (Kd.zz HO434.out BK418.out (by decide)) (fun _ hk => hk.2) (.int .i64 t431)) (fun _ hk => hk.2) (.slice Ao28 t432.length co28)) (fun _ hk => trivial), sqB⟩
      ·replace c20 := Bool.eq_false_iff.mpr c20
       subst c20
       have H1 : (some (0, ([] : List Int), false)) = some (r1, r2, r3) := by rw [if_neg (show ¬ (false = true) by decide)] at H; exact H
       clear H
       have H := H1
       clear H1
       simp only [Option.some.injEq, Prod.mk.injEq] at H
       obtain ⟨rfl, rfl, rfl⟩ := H
       obtain ⟨Ao33, co33, eo33⟩ := Kd.zK HO_6.out
       subst eo33
       go_wp2_with (first | ((with_reducible refine ze (f := 22) rfl ?_); refine zv (some 35) rfl rfl Tryz.func22 (by kernel_rfl) rfl #[.slice Ao33 x6_1.length co33] rfl sqM ?_; (with_reducible refine (zH.calls k1 _ _ x6_1 t428 _ ?side1 ?side2 A15.out).mono ?_); (case side1 => exact sqC (Kd.zg HO_6.out).2.2); (case side2 => exact (Kd.zg HO_6.out).2.1); rintro e w34 ⟨v429, rfl, ho0, hb⟩; refine ⟨_, rfl, ?_⟩; have n0_ := Aside0.mk (Kd.zw (sqR HO_6.out) (Kd.zQ ho0) hb); have n1_ := Aside0.mk (Kd.zD (Kd.zP ho0 (Kd.qt (sqR HO_6.out))) (zh sqB)); have n2_ := Aside0.mk (zd (g := gb418) (o := .cells #[.int .i64 0, .slice none 0 0] 24 (0, 0)) (sqK BK418.out) hb); have n3_ := Aside0.mk (zc sqB hb); clear HO_6; clear BK418; clear HB; have HO_6 := n0_; have HO430 := n1_; have BK418 := n2_; have HB := n3_; clear n0_ n1_ n2_ n3_; (try clear hb); (try clear hb2); (try clear hk); (try clear hi); (try clear ho0); obtain ⟨Ao35, co35, eo35⟩ := Kd.zK HO430.out; subst eo35) | ((with_reducible refine ze (f := 21) rfl ?_); refine zv (some 36) rfl rfl Tryz.func21 (by kernel_rfl) rfl #[.int .i64 a0, .slice Ao35 t428.length co35] rfl sqM ?_; (with_reducible refine (qR.calls k1 a0 _ _ t428 t431 t432 true _ ?side1 ?side2 A16.out).mono ?_); (case side1 => exact sqC (Kd.zg HO430.out).2.2); (case side2 => exact (Kd.zg HO430.out).2.1); rintro e w36 ⟨v433, rfl, ho0, hb⟩; refine ⟨_, rfl, ?_⟩; have n0_ := Aside0.mk (Kd.zw (sqR HO_6.out) (Kd.zQ ho0) hb); have n1_ := Aside0.mk (Kd.zw (sqR HO430.out) (Kd.zQ ho0) hb); have n2_ := Aside0.mk (Kd.zD (Kd.zP (Kd.zP ho0 (Kd.qt (sqR HO_6.out))) (Kd.qt (sqR HO430.out))) (zh sqB)); have n3_ := Aside0.mk (zd (g := gb418) (o := .cells #[.int .i64 0, .slice none 0 0] 24 (0, 0)) (sqK BK418.out) hb); have n4_ := Aside0.mk (zc sqB hb); clear HO_6; clear HO430; clear BK418; clear HB; have HO_6 := n0_; have HO430 := n1_; have HO434 := n2_; have BK418 := n3_; have HB := n4_; clear n0_ n1_ n2_ n3_ n4_; (try clear hb); (try clear hb2); (try clear hk); (try clear hi); (try clear ho0)) | ((with_reducible refine zm (N := 9) rfl ?_); refine zq ?hg (N := 9) ?hd (cs := #[.int .i64 0, .slice none 0 0]) (t := 24) ?hr ?_; (case hd => rfl); (case hg => rfl); (case hr => exact sqG); intro gb436 hg w37 hbox hb; have n0_ := Aside0.mk (Kd.zx (sqR HO_6.out) hb); have n1_ := Aside0.mk (Kd.zx (sqR HO430.out) hb); have n2_ := Aside0.mk (Kd.zx (sqR HO434.out) hb); have n3_ := Aside0.mk (zd (g := gb418) (o := .cells #[.int .i64 0, .slice none 0 0] 24 (0, 0)) (sqK BK418.out) hb); have n4_ := Aside0.mk (zc sqB hb); have n5_ := Aside0.mk (hbox); have n6_ := Aside0.mk ((sqS hg : w.heap.size ≤ gb436)); have n7_ := Aside0.mk ((sqS hg : w.heap.size ≤ gb436)); have n8_ := Aside0.mk ((by rw [hg]; exact Nat.ne_of_lt (zU (g := gb418) (o := .cells #[.int .i64 0, .slice none 0 0] 24 (0, 0)) (sqK BK418.out)) : gb418 ≠ gb436)); have n9_ := Aside0.mk ((by rw [hg]; exact Nat.ne_of_gt (zU (g := gb418) (o := .cells #[.int .i64 0, .slice none 0 0] 24 (0, 0)) (sqK BK418.out)) : gb436 ≠ gb418)); clear HO_6; clear HO430; clear HO434; clear BK418; clear HB; have HO_6 := n0_; have HO430 := n1_; have HO434 := n2_; have BK418 := n3_; have HB := n4_; have BK436 := n5_; have GW436 := n6_; have GE436 := n7_; have NB418_436 := n8_; have NB436_418 := n9_; clear n0_ n1_ n2_ n3_ n4_ n5_ n6_ n7_ n8_ n9_; clear hb hbox hg; have hnb38 := NB436_418.out; have hnc38 := NB418_436.out; have hcz39_0 : w37.cell? ⟨gb436, 0, none⟩ = some (.int .i64 0) := (za BK436.out 0).trans rfl; have hcz39_1 : w37.cell? ⟨gb436, 1, none⟩ = some (.slice none 0 0) := (za BK436.out 1).trans rfl; have hfz39_0 := zb BK436.out 0; have hfz39_1 := zb BK436.out 1; obtain ⟨Ao40, co40, eo40⟩ := Kd.zK HO434.out; subst eo40) | (go_at_call 24; (try simp only [zi, zj]); (with_reducible refine (jd.calls k1 t431 _ _ t432 t437 _ ?side1 ?side2 A18.out).mono ?_); (case side1 => refine (Kd.zg (e := 3) (base := w.heap.size) (ok := fun k_ => ((True ∧ some k_ ≠ (.slice Ao33 x6_1.length co33 : Value).ownBlock) ∧ some k_ ≠ (.slice Ao35 t428.length co35 : Value).ownBlock)) (n := t432.length) (c := co40) ?_).2.2; exact (by refine sqR ?_; exact (Kd.zn (Kd.zp (p := ⟨gb436, 1, none⟩) (Kd.zp (p := ⟨gb436, 0, none⟩) (Kd.zz HO434.out BK436.out (by decide)) (fun _ hk => hk.2) (.int .i64 t431)) (fun _ hk => hk.2) (.slice Ao40 t432.length co40)) (fun _ h_ => h_.1)))); (case side2 => exact (Kd.zg HO434.out).2.1); rintro e w41 ⟨v438, rfl, ho0, hb⟩; have n0_ := Aside0.mk (Kd.zw (by refine sqR ?_; exact (Kd.zn (Kd.zp (p := ⟨gb436, 1, none⟩) (Kd.zp (p := ⟨gb436, 0, none⟩) (Kd.zz HO_6.out BK436.out (by decide)) (fun _ hk => hk.2) (.int .i64 t431)) (fun _ hk => hk.2) (.slice Ao40 t432.length co40)) (fun _ h_ => h_.1))) (Kd.zQ ho0) hb); have n1_ := Aside0.mk (Kd.zw (by refine sqR ?_; exact (Kd.zn (Kd.zp (p := ⟨gb436, 1, none⟩) (Kd.zp (p := ⟨gb436, 0, none⟩) (Kd.zz HO430.out BK436.out (by decide)) (fun _ hk => hk.2) (.int .i64 t431)) (fun _ hk => hk.2) (.slice Ao40 t432.length co40)) (fun _ h_ => h_.1))) (Kd.zQ ho0) hb); have n2_ := Aside0.mk (Kd.zw (by refine sqR ?_; exact (Kd.zn (Kd.zp (p := ⟨gb436, 1, none⟩) (Kd.zp (p := ⟨gb436, 0, none⟩) (Kd.zz HO434.out BK436.out (by decide)) (fun _ hk => hk.2) (.int .i64 t431)) (fun _ hk => hk.2) (.slice Ao40 t432.length co40)) (fun _ h_ => h_.1))) (Kd.zQ ho0) hb); have n3_ := Aside0.mk (Kd.zD (Kd.zP (Kd.zP (Kd.zP ho0 (Kd.qt (by refine sqR ?_; exact (Kd.zn (Kd.zp (p := ⟨gb436, 1, none⟩) (Kd.zp (p := ⟨gb436, 0, none⟩) (Kd.zz HO_6.out BK436.out (by decide)) (fun _ hk => hk.2) (.int .i64 t431)) (fun _ hk => hk.2) (.slice Ao40 t432.length co40)) (fun _ h_ => h_.1))))) (Kd.qt (by refine sqR ?_; exact (Kd.zn (Kd.zp (p := ⟨gb436, 1, none⟩) (Kd.zp (p := ⟨gb436, 0, none⟩) (Kd.zz HO430.out BK436.out (by decide)) (fun _ hk => hk.2) (.int .i64 t431)) (fun _ hk => hk.2) (.slice Ao40 t432.length co40)) (fun _ h_ => h_.1))))) (Kd.qt (by refine sqR ?_; exact (Kd.zn (Kd.zp (p := ⟨gb436, 1, none⟩) (Kd.zp (p := ⟨gb436, 0, none⟩) (Kd.zz HO434.out BK436.out (by decide)) (fun _ hk => hk.2) (.int .i64 t431)) (fun _ hk => hk.2) (.slice Ao40 t432.length co40)) (fun _ h_ => h_.1))))) (zh sqB)); have n4_ := Aside0.mk (zd (g := gb418) (o := .cells #[.int .i64 0, .slice none 0 0] 24 (0, 0)) (by refine sqK ?_; refine z6 ?_ NB418_436.out _; refine sqK ?_; refine z6 ?_ NB418_436.out _; refine sqK ?_; exact BK418.out) hb); have n5_ := Aside0.mk (zd (g := gb436) (o := .cells #[.int .i64 t431, .slice Ao40 t432.length co40] 24 (0, 0)) (by refine sqK ?_; refine zF (cs := #[.int .i64 t431, .slice none 0 0]) ?_ 1 _ rfl; refine sqK ?_; refine zF (cs := #[.int .i64 0, .slice none 0 0]) ?_ 0 _ rfl; refine sqK ?_; exact BK436.out) hb); have n6_ := Aside0.mk (zc sqB hb); clear HO_6; clear HO430; clear HO434; clear BK418; clear BK436; clear HB; have HO_6 := n0_; have HO430 := n1_; have HO434 := n2_; have HO439 := n3_; have BK418 := n4_; have BK436 := n5_; have HB := n6_; clear n0_ n1_ n2_ n3_ n4_ n5_ n6_; (try clear hb); (try clear hb2); (try clear hk); (try clear hi); (try clear ho0); obtain ⟨Ao42, co42, eo42⟩ := Kd.zK HO439.out; subst eo42) | (go_at_call 23; (try simp only [zi, zj]); (with_reducible refine (zr.calls k1 _ _ t437 _ _ l1 false _ ?side1 ?side2 ?side3 ?side4 A19.out).mono ?_); (case side1 => exact sqC (Kd.zg HO439.out).2.2); (case side2 => exact (Kd.zg HO439.out).2.1); (case side3 => exact sqC (Kd.zt HR1.out HB.out)); (case side4 => exact HC1.out); rintro e w' ⟨rfl, ⟨nd, rfl⟩⟩; (try (rw [qO w41]; generalize hq_ : World.drewN w41 _ = w41; have n0_ : Aside0 (Kd.R (Kd.int .i64) 3 w41 w.heap.size (fun k_ => some k_ ≠ (.slice Ao40 t432.length co40 : Value).ownBlock ∧ some k_ ≠ (.slice Ao42 t437.length co42 : Value).ownBlock ∧ some k_ ≠ (.slice Ao33 x6_1.length co33 : Value).ownBlock) (.slice Ao35 t428.length co35) t428) := ⟨by rw [← hq_]; exact (by refine sqR ?_; exact Kd.zn HO430.out (fun _ hk => by first | exact ⟨hk.1.2, ⟨hk.2, hk.1.1.2⟩⟩ | (refine ⟨?_, ?_, ?_⟩ <;> intro e_ <;> simp only [e_, ne_eq, not_true_eq_false, and_false, false_and] at hk)))⟩; have n1_ : Aside0 (Kd.R (Kd.int .i64) 3 w41 w.heap.size (fun k_ => some k_ ≠ (.slice Ao35 t428.length co35 : Value).ownBlock ∧ some k_ ≠ (.slice Ao42 t437.length co42 : Value).ownBlock ∧ some k_ ≠ (.slice Ao33 x6_1.length co33 : Value).ownBlock) (.slice Ao40 t432.length co40) t432) := ⟨by rw [← hq_]; exact (by refine sqR ?_; exact Kd.zn HO434.out (fun _ hk => by first | exact ⟨hk.1.2, ⟨hk.2, hk.1.1.2⟩⟩ | (refine ⟨?_, ?_, ?_⟩ <;> intro e_ <;> simp only [e_, ne_eq, not_true_eq_false, and_false, false_and] at hk)))⟩; have n2_ : Aside0 (Kd.R (Kd.int .i64) 3 w41 w.heap.size (fun k_ => some k_ ≠ (.slice Ao35 t428.length co35 : Value).ownBlock ∧ some k_ ≠ (.slice Ao40 t432.length co40 : Value).ownBlock ∧ some k_ ≠ (.slice Ao33 x6_1.length co33 : Value).ownBlock) (.slice Ao42 t437.length co42) t437) := ⟨by rw [← hq_]; exact (by refine sqR ?_; exact Kd.zn HO439.out (fun _ hk => by first | exact ⟨hk.1.2, ⟨hk.2, hk.1.1.2⟩⟩ | (refine ⟨?_, ?_, ?_⟩ <;> intro e_ <;> simp only [e_, ne_eq, not_true_eq_false, and_false, false_and] at hk)))⟩; have n3_ : Aside0 (Kd.R (Kd.int .i64) 3 w41 w.heap.size (fun k_ => some k_ ≠ (.slice Ao35 t428.length co35 : Value).ownBlock ∧ some k_ ≠ (.slice Ao40 t432.length co40 : Value).ownBlock ∧ some k_ ≠ (.slice Ao42 t437.length co42 : Value).ownBlock) (.slice Ao33 x6_1.length co33) x6_1) := ⟨by rw [← hq_]; exact (by refine sqR ?_; exact Kd.zn HO_6.out (fun _ hk => by first | exact ⟨hk.1.1.2, ⟨hk.1.2, hk.2⟩⟩ | (refine ⟨?_, ?_, ?_⟩ <;> intro e_ <;> simp only [e_, ne_eq, not_true_eq_false, and_false, false_and] at hk)))⟩; have n4_ : Aside0 (w41.heap[gb418]? = some (.cells #[.int .i64 0, .slice none 0 0] 24 (0, 0))) := ⟨by rw [← hq_]; exact (sqK BK418.out)⟩; have n5_ : Aside0 (w41.heap[gb436]? = some (.cells #[.int .i64 t431, .slice Ao40 t432.length co40] 24 (0, 0))) := ⟨by rw [← hq_]; exact (sqK BK436.out)⟩; have n6_ : Aside0 (Below w.heap.size w w41) := ⟨by rw [← hq_]; exact sqB⟩; clear HO430 HO434 HO439 HO_6 BK418 BK436 HB hq_; have HO430 := n0_; have HO434 := n1_; have HO439 := n2_; have HO_6 := n3_; have BK418 := n4_; have BK436 := n5_; have HB := n6_; clear n0_ n1_ n2_ n3_ n4_ n5_ n6_; have hczqgb418_0 : w41.cell? ⟨gb418, 0, none⟩ = some (.int .i64 0) := (za BK418.out 0).trans rfl; have hfzqgb418_0 := zb BK418.out 0; have hczqgb418_1 : w41.cell? ⟨gb418, 1, none⟩ = some (.slice none 0 0) := (za BK418.out 1).trans rfl; have hfzqgb418_1 := zb BK418.out 1; have hczqgb436_0 : w41.cell? ⟨gb436, 0, none⟩ = some (.int .i64 t431) := (za BK436.out 0).trans rfl; have hfzqgb436_0 := zb BK436.out 0; have hczqgb436_1 : w41.cell? ⟨gb436, 1, none⟩ = some (.slice Ao40 t432.length co40) := (za BK436.out 1).trans rfl; have hfzqgb436_1 := zb BK436.out 1)); have hcz43_0 : w41.cell? ⟨gb418, 0, none⟩ = some (.int .i64 0) := (za BK418.out 0).trans rfl; have hcz43_1 : w41.cell? ⟨gb418, 1, none⟩ = some (.slice none 0 0) := (za BK418.out 1).trans rfl; have hfz43_0 := zb BK418.out 0; have hfz43_1 := zb BK418.out 1))
       refine bodyPost_ret (qz rfl _ _ gb418 24 #[.int .i64 0, .slice none 0 0] (0, 0) _ rfl (by refine sqK ?_; refine zF (cs := #[.int .i64 0, .slice none 0 0]) ?_ 1 _ rfl; refine sqK ?_; refine zF (cs := #[.int .i64 0, .slice none 0 0]) ?_ 0 _ rfl; refine sqK ?_; exact BK418.out) Tryz.underlying24 rfl (by kernel_rfl)) rfl ?_
       exact ⟨_, sqE, sqN, sqB⟩
     ·replace c17 := Bool.eq_false_iff.mpr c17
      subst c17
      have H1 : (some (0, ([] : List Int), false)) = some (r1, r2, r3) := by rw [if_neg (show ¬ (false = true) by decide)] at H; exact H
      clear H
      have H := H1
      clear H1
      simp only [Option.some.injEq, Prod.mk.injEq] at H
      obtain ⟨rfl, rfl, rfl⟩ := H
      obtain ⟨Ao44, co44, eo44⟩ := Kd.zK HO_6.out
      subst eo44
      go_wp2_with (first | ((with_reducible refine ze (f := 22) rfl ?_); refine zv (some 35) rfl rfl Tryz.func22 (by kernel_rfl) rfl #[.slice Ao44 x6_1.length co44] rfl sqM ?_; (with_reducible refine (zH.calls k1 _ _ x6_1 t428 _ ?side1 ?side2 A15.out).mono ?_); (case side1 => exact sqC (Kd.zg HO_6.out).2.2); (case side2 => exact (Kd.zg HO_6.out).2.1); rintro e w45 ⟨v429, rfl, ho0, hb⟩; refine ⟨_, rfl, ?_⟩; have n0_ := Aside0.mk (Kd.zw (sqR HO_6.out) (Kd.zQ ho0) hb); have n1_ := Aside0.mk (Kd.zD (Kd.zP ho0 (Kd.qt (sqR HO_6.out))) (zh sqB)); have n2_ := Aside0.mk (zd (g := gb418) (o := .cells #[.int .i64 0, .slice none 0 0] 24 (0, 0)) (sqK BK418.out) hb); have n3_ := Aside0.mk (zc sqB hb); clear HO_6; clear BK418; clear HB; have HO_6 := n0_; have HO430 := n1_; have BK418 := n2_; have HB := n3_; clear n0_ n1_ n2_ n3_; (try clear hb); (try clear hb2); (try clear hk); (try clear hi); (try clear ho0); obtain ⟨Ao46, co46, eo46⟩ := Kd.zK HO430.out; subst eo46) | ((with_reducible refine ze (f := 21) rfl ?_); refine zv (some 36) rfl rfl Tryz.func21 (by kernel_rfl) rfl #[.int .i64 a0, .slice Ao46 t428.length co46] rfl sqM ?_; (with_reducible refine (qR.calls k1 a0 _ _ t428 t431 t432 false _ ?side1 ?side2 A16.out).mono ?_); (case side1 => exact sqC (Kd.zg HO430.out).2.2); (case side2 => exact (Kd.zg HO430.out).2.1); rintro e w47 ⟨v433, rfl, ho0, hb⟩; refine ⟨_, rfl, ?_⟩; have n0_ := Aside0.mk (Kd.zw (sqR HO_6.out) (Kd.zQ ho0) hb); have n1_ := Aside0.mk (Kd.zw (sqR HO430.out) (Kd.zQ ho0) hb); have n2_ := Aside0.mk (Kd.zD (Kd.zP (Kd.zP ho0 (Kd.qt (sqR HO_6.out))) (Kd.qt (sqR HO430.out))) (zh sqB)); have n3_ := Aside0.mk (zd (g := gb418) (o := .cells #[.int .i64 0, .slice none 0 0] 24 (0, 0)) (sqK BK418.out) hb); have n4_ := Aside0.mk (zc sqB hb); clear HO_6; clear HO430; clear BK418; clear HB; have HO_6 := n0_; have HO430 := n1_; have HO434 := n2_; have BK418 := n3_; have HB := n4_; clear n0_ n1_ n2_ n3_ n4_; (try clear hb); (try clear hb2); (try clear hk); (try clear hi); (try clear ho0)) | ((with_reducible refine zm (N := 9) rfl ?_); refine zq ?hg (N := 9) ?hd (cs := #[.int .i64 0, .slice none 0 0]) (t := 24) ?hr ?_; (case hd => rfl); (case hg => rfl); (case hr => exact sqG); intro gb436 hg w48 hbox hb; have n0_ := Aside0.mk (Kd.zx (sqR HO_6.out) hb); have n1_ := Aside0.mk (Kd.zx (sqR HO430.out) hb); have n2_ := Aside0.mk (Kd.zx (sqR HO434.out) hb); have n3_ := Aside0.mk (zd (g := gb418) (o := .cells #[.int .i64 0, .slice none 0 0] 24 (0, 0)) (sqK BK418.out) hb); have n4_ := Aside0.mk (zc sqB hb); have n5_ := Aside0.mk (hbox); have n6_ := Aside0.mk ((sqS hg : w.heap.size ≤ gb436)); have n7_ := Aside0.mk ((sqS hg : w.heap.size ≤ gb436)); have n8_ := Aside0.mk ((by rw [hg]; exact Nat.ne_of_lt (zU (g := gb418) (o := .cells #[.int .i64 0, .slice none 0 0] 24 (0, 0)) (sqK BK418.out)) : gb418 ≠ gb436)); have n9_ := Aside0.mk ((by rw [hg]; exact Nat.ne_of_gt (zU (g := gb418) (o := .cells #[.int .i64 0, .slice none 0 0] 24 (0, 0)) (sqK BK418.out)) : gb436 ≠ gb418)); clear HO_6; clear HO430; clear HO434; clear BK418; clear HB; have HO_6 := n0_; have HO430 := n1_; have HO434 := n2_; have BK418 := n3_; have HB := n4_; have BK436 := n5_; have GW436 := n6_; have GE436 := n7_; have NB418_436 := n8_; have NB436_418 := n9_; clear n0_ n1_ n2_ n3_ n4_ n5_ n6_ n7_ n8_ n9_; clear hb hbox hg; have hnb49 := NB436_418.out; have hnc49 := NB418_436.out; have hcz50_0 : w48.cell? ⟨gb436, 0, none⟩ = some (.int .i64 0) := (za BK436.out 0).trans rfl; have hcz50_1 : w48.cell? ⟨gb436, 1, none⟩ = some (.slice none 0 0) := (za BK436.out 1).trans rfl; have hfz50_0 := zb BK436.out 0; have hfz50_1 := zb BK436.out 1; obtain ⟨Ao51, co51, eo51⟩ := Kd.zK HO434.out; subst eo51; have hcz52_0 : w48.cell? ⟨gb418, 0, none⟩ = some (.int .i64 0) := (za BK418.out 0).trans rfl; have hcz52_1 : w48.cell? ⟨gb418, 1, none⟩ = some (.slice none 0 0) := (za BK418.out 1).trans rfl; have hfz52_0 := zb BK418.out 0; have hfz52_1 := zb BK418.out 1))
      refine bodyPost_ret (qz rfl _ _ gb418 24 #[.int .i64 0, .slice none 0 0] (0, 0) _ rfl (by refine sqK ?_; refine zF (cs := #[.int .i64 0, .slice none 0 0]) ?_ 1 _ rfl; refine sqK ?_; refine zF (cs := #[.int .i64 0, .slice none 0 0]) ?_ 0 _ rfl; refine sqK ?_; refine z6 ?_ NB418_436.out _; refine sqK ?_; refine z6 ?_ NB418_436.out _; refine sqK ?_; exact BK418.out) Tryz.underlying24 rfl (by kernel_rfl)) rfl ?_
      exact ⟨_, sqE, sqN, sqB⟩
 ·replace c4 := Bool.eq_false_iff.mpr c4
  subst c4
  have H1 : (some (0, ([] : List Int), false)) = some (r1, r2, r3) := by rw [if_neg (show ¬ (false = true) by decide)] at H; exact H
  clear H
  have H := H1
  clear H1
  simp only [Option.some.injEq, Prod.mk.injEq] at H
  obtain ⟨rfl, rfl, rfl⟩ := H
  go_enter Tryz.func6, Tryz.ntmps6
  go_wp2_with (first | ((with_reducible refine zm (N := 4) rfl ?_); refine zq ?hg (N := 4) ?hd (cs := #[.int .i64 0, .slice none 0 0]) (t := 24) ?hr ?_; (case hd => rfl); (case hg => rfl); (case hr => exact sqG); intro gb418 hg w53 hbox hb; have n0_ := Aside0.mk (zc sqB hb); have n1_ := Aside0.mk (hbox); have n2_ := Aside0.mk ((sqS hg : w.heap.size ≤ gb418)); have n3_ := Aside0.mk ((sqS hg : w.heap.size ≤ gb418)); clear HB; have HB := n0_; have BK418 := n1_; have GW418 := n2_; have GE418 := n3_; clear n0_ n1_ n2_ n3_; clear hb hbox hg) | ((with_reducible refine ze (f := 19) rfl ?_); refine zv (some 13) rfl rfl Tryz.func19 (by kernel_rfl) rfl #[.int .i64 a0, .slice A1 l1.length c1] rfl sqM ?_; (with_reducible refine (zJ.calls k a0 _ _ l1 false _ ?side1 ?side2 A3.out).mono ?_); (case side1 => exact sqC (Kd.zt HR1.out HB.out)); (case side2 => exact HC1.out); rintro e w' ⟨rfl, ⟨nd, rfl⟩⟩; refine ⟨_, rfl, ?_⟩; (try (rw [qO w53]; generalize hq_ : World.drewN w53 _ = w53; have n0_ : Aside0 (w53.heap[gb418]? = some (.cells #[.int .i64 0, .slice none 0 0] 24 (0, 0))) := ⟨by rw [← hq_]; exact (sqK BK418.out)⟩; have n1_ : Aside0 (Below w.heap.size w w53) := ⟨by rw [← hq_]; exact sqB⟩; clear BK418 HB hq_; have BK418 := n0_; have HB := n1_; clear n0_ n1_; have hczqgb418_0 : w53.cell? ⟨gb418, 0, none⟩ = some (.int .i64 0) := (za BK418.out 0).trans rfl; have hfzqgb418_0 := zb BK418.out 0; have hczqgb418_1 : w53.cell? ⟨gb418, 1, none⟩ = some (.slice none 0 0) := (za BK418.out 1).trans rfl; have hfzqgb418_1 := zb BK418.out 1)); have hcz54_0 : w53.cell? ⟨gb418, 0, none⟩ = some (.int .i64 0) := (za BK418.out 0).trans rfl; have hcz54_1 : w53.cell? ⟨gb418, 1, none⟩ = some (.slice none 0 0) := (za BK418.out 1).trans rfl; have hfz54_0 := zb BK418.out 0; have hfz54_1 := zb BK418.out 1))
  refine bodyPost_ret (qz rfl _ _ gb418 24 #[.int .i64 0, .slice none 0 0] (0, 0) _ rfl (by refine sqK ?_; refine zF (cs := #[.int .i64 0, .slice none 0 0]) ?_ 1 _ rfl; refine sqK ?_; refine zF (cs := #[.int .i64 0, .slice none 0 0]) ?_ 0 _ rfl; refine sqK ?_; exact BK418.out) Tryz.underlying24 rfl (by kernel_rfl)) rfl ?_
  exact ⟨_, sqE, sqN, sqB⟩

end Go.Proofs.YteggmbhcnhbamaaGreat.F
end
section
namespace Go.Proofs.YteggmbhcnhbamaaGreat.F
open Go.RowKit Go.Proofs.YteggmbhcnhbamaaGreatW.PrintWords Go.Proofs.YteggmbhcnhbamaaGreatW.PrintLast Go.Proofs.YteggmbhcnhbamaaGreatW.PrintMore
attribute [local go_sem] jG jJ jZ jV jr jq jF jI   -- for this text's walks alone
set_option linter.unusedVariables false
set_option linter.unusedSimpArgs false

mutual
def zf.j0 : Nat → Int → List Int → Bool → List Int → Bool → Bool → Int → List Int → Int → List Int → Option (Bool)
 | 0, _, _, _, _, _, _, _, _, _, _ => none
 | k + 1, x0, x1, x6, x7, x9, x41, x462000, x462001, x471000, x471001 => if x41 = true then (none) else ((qh.f k x1).bind fun t472 => ((qM.f k x7 t472).bind fun t475 => (if t475 = true then ((qo.f k x7 1).bind fun bt476 => (if bt476.1 < 0 then (zf.j1 k x0 x1 x6 true x462000 x462001 x471000 x471001) else ((zY.f k x471000 x471001 x462000 x462001).bind fun t478 => (if t478 = true then (zf.j1 k x0 x1 x6 (x9 != x6) x462000 x462001 x471000 x471001) else (zf.j1 k x0 x1 x6 true x462000 x462001 x471000 x471001))))) else (none))))
def zf.j1 : Nat → Int → List Int → Bool → Bool → Int → List Int → Int → List Int → Option (Bool)
 | 0, _, _, _, _, _, _, _, _ => none
 | k + 1, x0, x1, x6, x62, x462000, x462001, x471000, x471001 => if x62 = true then (none) else ((js.f k x471000 x471001 1).bind fun bt479 => ((qU.f k x471000 bt479.2 1).bind fun t481 => (if t481 < 0 then (none) else (if t481 = bt479.1 then ((qh.f k x1).bind fun t482 => ((zV.f k x0 t482).bind fun bt485 => ((zY.f k bt485.1 bt485.2.1 x462000 x462001).bind fun t491 => (if t491 = true then (zf.j2 k bt479.1 (bt485.2.2 != x6) x471000 bt479.2) else (zf.j2 k bt479.1 true x471000 bt479.2))))) else (none)))))
def zf.j2 : Nat → Int → Bool → Int → List Int → Option (Bool)
 | 0, _, _, _, _ => none
 | k + 1, x11, x89, x471000, x471001 => if x89 = true then (none) else ((qU.f k x471000 x471001 1).bind fun t492 => (if t492 < 0 then (none) else (if t492 = x11 then (some true) else (none))))
end
def zf.f (k : Nat) (a0 : Int) (l1 : List Int) : Option (Bool) := if (l1.length : Int) > 1048576 then (some true) else ((qh.f k l1).bind fun t453 => ((zR.f k a0 t453).bind fun bt456 => ((qh.f k l1).bind fun t462 => ((zV.f k a0 t462).bind fun bt465 => ((zY.f k bt465.1 bt465.2.1 bt456.1 bt456.2.1).bind fun t471 => (if t471 = true then (zf.j0 k a0 l1 bt456.2.2 t462 bt465.2.2 (bt465.2.2 != bt456.2.2) bt456.1 bt456.2.1 bt465.1 bt465.2.1) else (zf.j0 k a0 l1 bt456.2.2 t462 bt465.2.2 true bt456.1 bt456.2.1 bt465.1 bt465.2.1)))))))
theorem zf.calls (k : Nat) (a0 : Int) (A1 : Option Addr) (c1 : Nat) (l1 : List Int) (r : Bool) (w : World) (hr1 : Kd.C (Kd.int .i64) w A1 l1.length l1) (hc1 : l1.length ≤ c1) (h : zf.f k a0 l1 = some r) :
  Calls Tryz.prog 3 #[.int .i64 a0, .slice A1 l1.length c1] w fun e w' => e = .returned (.bool r) ∧ Below w.heap.size w w' := by
 have hu24 := Tryz.underlying24
 have HR1 := Aside0.mk hr1
 have HC1 := Aside0.mk hc1
 clear hr1 hc1
 have HB := Aside0.mk (Below.refl w.heap.size w)
 have H : (if (l1.length : Int) > 1048576 then (some true) else ((qh.f k l1).bind fun t453 => ((zR.f k a0 t453).bind fun bt456 => ((qh.f k l1).bind fun t462 => ((zV.f k a0 t462).bind fun bt465 => ((zY.f k bt465.1 bt465.2.1 bt456.1 bt456.2.1).bind fun t471 => (if t471 = true then (zf.j0 k a0 l1 bt456.2.2 t462 bt465.2.2 (bt465.2.2 != bt456.2.2) bt456.1 bt456.2.1 bt465.1 bt465.2.1) else (zf.j0 k a0 l1 bt456.2.2 t462 bt465.2.2 true bt456.1 bt456.2.1 bt465.1 bt465.2.1)))))))) = some r := h
 clear h
 by_cases c3 : (l1.length : Int) > 1048576
 ·rw [if_pos c3] at H
  have c3b0 : decide (1048576 < (l1.length : Int)) = true := decide_eq_true c3
  have c3b1 : decide (1048576 < l1.length) = true := decide_eq_true (by omega)
  clear c3
  obtain rfl := Option.some.inj H
  go_enter Tryz.func3, Tryz.ntmps3
  go_wp2
  go_ret
  exact ⟨sqE, sqB⟩
 ·rw [if_neg c3] at H
  have c3b0 : decide (1048576 < (l1.length : Int)) = false := decide_eq_false c3
  have c3b1 : decide (1048576 < l1.length) = false := decide_eq_false (by omega)
  clear c3
  replace H := Option.bind_eq_some_iff.mp H
  obtain ⟨t453, A40, H⟩ := H
  replace H : ((zR.f k a0 t453).bind fun bt456 => ((qh.f k l1).bind fun t462 => ((zV.f k a0 t462).bind fun bt465 => ((zY.f k bt465.1 bt465.2.1 bt456.1 bt456.2.1).bind fun t471 => (if t471 = true then (zf.j0 k a0 l1 bt456.2.2 t462 bt465.2.2 (bt465.2.2 != bt456.2.2) bt456.1 bt456.2.1 bt465.1 bt465.2.1) else (zf.j0 k a0 l1 bt456.2.2 t462 bt465.2.2 true bt456.1 bt456.2.1 bt465.1 bt465.2.1)))))) = some r := H
  have A4 := Aside0.mk A40
  clear A40
  replace H := Option.bind_eq_some_iff.mp H
  obtain ⟨⟨t456, t457, t460⟩, A50, H⟩ := H
  replace H : ((qh.f k l1).bind fun t462 => ((zV.f k a0 t462).bind fun bt465 => ((zY.f k bt465.1 bt465.2.1 t456 t457).bind fun t471 => (if t471 = true then (zf.j0 k a0 l1 t460 t462 bt465.2.2 (bt465.2.2 != t460) t456 t457 bt465.1 bt465.2.1) else (zf.j0 k a0 l1 t460 t462 bt465.2.2 true t456 t457 bt465.1 bt465.2.1))))) = some r := H
  have A5 := Aside0.mk A50
  clear A50
  replace H := Option.bind_eq_some_iff.mp H
  obtain ⟨t462, A60, H⟩ := H
  replace H : ((zV.f k a0 t462).bind fun bt465 => ((zY.f k bt465.1 bt465.2.1 t456 t457).bind fun t471 => (if t471 = true then (zf.j0 k a0 l1 t460 t462 bt465.2.2 (bt465.2.2 != t460) t456 t457 bt465.1 bt465.2.1) else (zf.j0 k a0 l1 t460 t462 bt465.2.2 true t456 t457 bt465.1 bt465.2.1)))) = some r := H
  have A6 := Aside0.mk A60
  clear A60
  replace H := Option.bind_eq_some_iff.mp H
  obtain ⟨⟨t465, t466, t469⟩, A70, H⟩ := H
  replace H : ((zY.f k t465 t466 t456 t457).bind fun t471 => (if t471 = true then (zf.j0 k a0 l1 t460 t462 t469 (t469 != t460) t456 t457 t465 t466) else (zf.j0 k a0 l1 t460 t462 t469 true t456 t457 t465 t466))) = some r := H
  have A7 := Aside0.mk A70
  clear A70
  have HC8 := Aside0.mk H
  clear H
  go_enter Tryz.func3, Tryz.ntmps3
  go_upto_region 6 with (first | ((with_reducible refine ze (f := 5) rfl ?_); refine zv (some 21) rfl rfl Tryz.func5 (by kernel_rfl) rfl #[.slice A1 l1.length c1] rfl sqM ?_; (with_reducible refine (qh.calls k _ _ l1 t453 _ ?side1 ?side2 A4.out).mono ?_); (case side1 => exact sqC HR1.out); (case side2 => exact HC1.out); rintro e w9 ⟨v454, rfl, ho0, hb⟩; refine ⟨_, rfl, ?_⟩; have n0_ := Aside0.mk (Kd.zD ho0 (zh sqB)); have n1_ := Aside0.mk (zc sqB hb); clear HB; have HO455 := n0_; have HB := n1_; clear n0_ n1_; (try clear hb); (try clear hb2); (try clear hk); (try clear hi); (try clear ho0); obtain ⟨Ao10, co10, eo10⟩ := Kd.zK HO455.out; subst eo10) | ((with_reducible refine ze (f := 4) rfl ?_); refine zv (some 22) rfl rfl Tryz.func4 (by kernel_rfl) rfl #[.int .i64 a0, .slice Ao10 t453.length co10] rfl sqM ?_; (with_reducible refine (zR.calls k a0 _ _ t453 t456 t457 t460 _ ?side1 ?side2 A5.out).mono ?_); (case side1 => exact sqC (Kd.zg HO455.out).2.2); (case side2 => exact (Kd.zg HO455.out).2.1); rintro e w11 ⟨v458, rfl, ho0, hb⟩; refine ⟨_, rfl, ?_⟩; have n0_ := Aside0.mk (Kd.zw (sqR HO455.out) (Kd.zQ ho0) hb); have n1_ := Aside0.mk (Kd.zD (Kd.zP ho0 (Kd.qt (sqR HO455.out))) (zh sqB)); have n2_ := Aside0.mk (zc sqB hb); clear HO455; clear HB; have HO455 := n0_; have HO459 := n1_; have HB := n2_; clear n0_ n1_ n2_; (try clear hb); (try clear hb2); (try clear hk); (try clear hi); (try clear ho0)) | ((with_reducible refine zm (N := 5) rfl ?_); refine zq ?hg (N := 5) ?hd (cs := #[.int .i64 0, .slice none 0 0]) (t := 24) ?hr ?_; (case hd => rfl); (case hg => rfl); (case hr => exact sqG); intro gb461 hg w12 hbox hb; have n0_ := Aside0.mk (Kd.zx (sqR HO455.out) hb); have n1_ := Aside0.mk (Kd.zx (sqR HO459.out) hb); have n2_ := Aside0.mk (zc sqB hb); have n3_ := Aside0.mk (hbox); have n4_ := Aside0.mk ((sqS hg : w.heap.size ≤ gb461)); have n5_ := Aside0.mk ((sqS hg : w.heap.size ≤ gb461)); clear HO455; clear HO459; clear HB; have HO455 := n0_; have HO459 := n1_; have HB := n2_; have BK461 := n3_; have GW461 := n4_; have GE461 := n5_; clear n0_ n1_ n2_ n3_ n4_ n5_; clear hb hbox hg; have hcz13_0 : w12.cell? ⟨gb461, 0, none⟩ = some (.int .i64 0) := (za BK461.out 0).trans rfl; have hcz13_1 : w12.cell? ⟨gb461, 1, none⟩ = some (.slice none 0 0) := (za BK461.out 1).trans rfl; have hfz13_0 := zb BK461.out 0; have hfz13_1 := zb BK461.out 1; obtain ⟨Ao14, co14, eo14⟩ := Kd.zK HO459.out; subst eo14) | ((with_reducible refine ze (f := 5) rfl ?_); refine zv (some 26) rfl rfl Tryz.func5 (by kernel_rfl) rfl #[.slice A1 l1.length c1] rfl sqM ?_; (with_reducible refine (qh.calls k _ _ l1 t462 _ ?side1 ?side2 A6.out).mono ?_); (case side1 => exact Kd.zt HR1.out sqB); (case side2 => exact HC1.out); rintro e w15 ⟨v463, rfl, ho0, hb⟩; refine ⟨_, rfl, ?_⟩; have n0_ := Aside0.mk (Kd.zw (by refine sqR ?_; exact (Kd.zn (Kd.zp (p := ⟨gb461, 1, none⟩) (Kd.zp (p := ⟨gb461, 0, none⟩) (Kd.zz HO455.out BK461.out (by decide)) (fun _ hk => hk.2) (.int .i64 t456)) (fun _ hk => hk.2) (.slice Ao14 t457.length co14)) (fun _ h_ => h_.1))) (Kd.zQ ho0) hb); have n1_ := Aside0.mk (Kd.zw (by refine sqR ?_; exact (Kd.zn (Kd.zp (p := ⟨gb461, 1, none⟩) (Kd.zp (p := ⟨gb461, 0, none⟩) (Kd.zz HO459.out BK461.out (by decide)) (fun _ hk => hk.2) (.int .i64 t456)) (fun _ hk => hk.2) (.slice Ao14 t457.length co14)) (fun _ h_ => h_.1))) (Kd.zQ ho0) hb); have n2_ := Aside0.mk (Kd.zD (Kd.zP (Kd.zP ho0 (Kd.qt (by refine sqR ?_; exact (Kd.zn (Kd.zp (p := ⟨gb461, 1, none⟩) (Kd.zp (p := ⟨gb461, 0, none⟩) (Kd.zz HO455.out BK461.out (by decide)) (fun _ hk => hk.2) (.int .i64 t456)) (fun _ hk => hk.2) (.slice Ao14 t457.length co14)) (fun _ h_ => h_.1))))) (Kd.qt (by refine sqR ?_; exact (Kd.zn (Kd.zp (p := ⟨gb461, 1, none⟩) (Kd.zp (p := ⟨gb461, 0, none⟩) (Kd.zz HO459.out BK461.out (by decide)) (fun _ hk => hk.2) (.int .i64 t456)) (fun _ hk => hk.2) (.slice Ao14 t457.length co14)) (fun _ h_ => h_.1))))) (zh sqB)); have n3_ := Aside0.mk (zd (g := gb461) (o := .cells #[.int .i64 t456, .slice Ao14 t457.length co14] 24 (0, 0)) (by refine sqK ?_; refine zF (cs := #[.int .i64 t456, .slice none 0 0]) ?_ 1 _ rfl; refine sqK ?_; refine zF (cs := #[.int .i64 0, .slice none 0 0]) ?_ 0 _ rfl; refine sqK ?_; exact BK461.out) hb); have n4_ := Aside0.mk (zc sqB hb); clear HO455; clear HO459; clear BK461; clear HB; have HO455 := n0_; have HO459 := n1_; have HO464 := n2_; have BK461 := n3_; have HB := n4_; clear n0_ n1_ n2_ n3_ n4_; (try clear hb); (try clear hb2); (try clear hk); (try clear hi); (try clear ho0); obtain ⟨Ao16, co16, eo16⟩ := Kd.zK HO464.out; subst eo16) | ((with_reducible refine ze (f := 6) rfl ?_); refine zv (some 30) rfl rfl Tryz.func6 (by kernel_rfl) rfl #[.int .i64 a0, .slice Ao16 t462.length co16] rfl sqM ?_; (with_reducible refine (zV.calls k a0 _ _ t462 t465 t466 t469 _ ?side1 ?side2 A7.out).mono ?_); (case side1 => exact sqC (Kd.zg HO464.out).2.2); (case side2 => exact (Kd.zg HO464.out).2.1); rintro e w17 ⟨v467, rfl, ho0, hb⟩; refine ⟨_, rfl, ?_⟩; have n0_ := Aside0.mk (Kd.zw (sqR HO455.out) (Kd.zQ ho0) hb); have n1_ := Aside0.mk (Kd.zw (sqR HO459.out) (Kd.zQ ho0) hb); have n2_ := Aside0.mk (Kd.zw (sqR HO464.out) (Kd.zQ ho0) hb); have n3_ := Aside0.mk (Kd.zD (Kd.zP (Kd.zP (Kd.zP ho0 (Kd.qt (sqR HO455.out))) (Kd.qt (sqR HO459.out))) (Kd.qt (sqR HO464.out))) (zh sqB)); have n4_ := Aside0.mk (zd (g := gb461) (o := .cells #[.int .i64 t456, .slice Ao14 t457.length co14] 24 (0, 0)) (sqK BK461.out) hb); have n5_ := Aside0.mk (zc sqB hb); clear HO455; clear HO459; clear HO464; clear BK461; clear HB; have HO455 := n0_; have HO459 := n1_; have HO464 := n2_; have HO468 := n3_; have BK461 := n4_; have HB := n5_; clear n0_ n1_ n2_ n3_ n4_ n5_; (try clear hb); (try clear hb2); (try clear hk); (try clear hi); (try clear ho0)) | ((with_reducible refine zm (N := 8) rfl ?_); refine zq ?hg (N := 8) ?hd (cs := #[.int .i64 0, .slice none 0 0]) (t := 24) ?hr ?_; (case hd => rfl); (case hg => rfl); (case hr => exact sqG); intro gb470 hg w18 hbox hb; have n0_ := Aside0.mk (Kd.zx (sqR HO455.out) hb); have n1_ := Aside0.mk (Kd.zx (sqR HO459.out) hb); have n2_ := Aside0.mk (Kd.zx (sqR HO464.out) hb); have n3_ := Aside0.mk (Kd.zx (sqR HO468.out) hb); have n4_ := Aside0.mk (zd (g := gb461) (o := .cells #[.int .i64 t456, .slice Ao14 t457.length co14] 24 (0, 0)) (sqK BK461.out) hb); have n5_ := Aside0.mk (zc sqB hb); have n6_ := Aside0.mk (hbox); have n7_ := Aside0.mk ((sqS hg : w.heap.size ≤ gb470)); have n8_ := Aside0.mk ((sqS hg : w.heap.size ≤ gb470)); have n9_ := Aside0.mk ((by rw [hg]; exact Nat.ne_of_lt (zU (g := gb461) (o := .cells #[.int .i64 t456, .slice Ao14 t457.length co14] 24 (0, 0)) (sqK BK461.out)) : gb461 ≠ gb470)); have n10_ := Aside0.mk ((by rw [hg]; exact Nat.ne_of_gt (zU (g := gb461) (o := .cells #[.int .i64 t456, .slice Ao14 t457.length co14] 24 (0, 0)) (sqK BK461.out)) : gb470 ≠ gb461)); clear HO455; clear HO459; clear HO464; clear HO468; clear BK461; clear HB; have HO455 := n0_; have HO459 := n1_; have HO464 := n2_; have HO468 := n3_; have BK461 := n4_; have HB := n5_; have BK470 := n6_; have GW470 := n7_; have GE470 := n8_; have NB461_470 := n9_; have NB470_461 := n10_; clear n0_ n1_ n2_ n3_ n4_ n5_ n6_ n7_ n8_ n9_ n10_; clear hb hbox hg; have hnb19 := NB470_461.out; have hnc19 := NB461_470.out; have hcz20_0 : w18.cell? ⟨gb470, 0, none⟩ = some (.int .i64 0) := (za BK470.out 0).trans rfl; have hcz20_1 : w18.cell? ⟨gb470, 1, none⟩ = some (.slice none 0 0) := (za BK470.out 1).trans rfl; have hfz20_0 := zb BK470.out 0; have hfz20_1 := zb BK470.out 1; obtain ⟨Ao21, co21, eo21⟩ := Kd.zK HO468.out; subst eo21))
  (try simp only [Act.put, List.setIfInBounds_toArray, List.set_cons_zero, List.set_cons_succ])
  go_cut [41] (fun v41 wc => ∃ (kq : Nat) (x41_7 : Bool), v41 = .bool x41_7 ∧ Aside0 (zf.j0 kq a0 l1 t460 t462 t469 x41_7 t456 t457 t465 t466 = some r) ∧ Aside0 (kq ≤ k) ∧ Aside0 (Kd.R (Kd.int .i64) 3 wc w.heap.size (fun k_ => some k_ ≠ ((.slice Ao14 t457.length co14) : Value).ownBlock ∧ some k_ ≠ ((.slice Ao21 t466.length co21) : Value).ownBlock) (.slice Ao16 t462.length co16) t462) ∧ Aside0 (Kd.R (Kd.int .i64) 3 wc w.heap.size (fun k_ => some k_ ≠ ((.slice Ao16 t462.length co16) : Value).ownBlock ∧ some k_ ≠ ((.slice Ao21 t466.length co21) : Value).ownBlock) (.slice Ao14 t457.length co14) t457) ∧ Aside0 (Kd.R (Kd.int .i64) 3 wc w.heap.size (fun k_ => some k_ ≠ ((.slice Ao16 t462.length co16) : Value).ownBlock ∧ some k_ ≠ ((.slice Ao14 t457.length co14) : Value).ownBlock) (.slice Ao21 t466.length co21) t466) ∧ Aside0 (wc.heap[gb461]? = some (.cells #[.int .i64 t456, (.slice Ao14 t457.length co14)] 24 (0, 0))) ∧ Aside0 (wc.heap[gb470]? = some (.cells #[.int .i64 t465, (.slice Ao21 t466.length co21)] 24 (0, 0))) ∧ Aside0 (Below w.heap.size w wc))
  case first =>
   have H := HC8.out
   clear HC8
   replace H := Option.bind_eq_some_iff.mp H
   obtain ⟨t471, A220, H⟩ := H
   replace H : (if t471 = true then (zf.j0 k a0 l1 t460 t462 t469 (t469 != t460) t456 t457 t465 t466) else (zf.j0 k a0 l1 t460 t462 t469 true t456 t457 t465 t466)) = some r := H
   have A22 := Aside0.mk A220
   clear A220
   by_cases c23 : t471 = true
   ·subst c23
    have H1 : (zf.j0 k a0 l1 t460 t462 t469 (t469 != t460) t456 t457 t465 t466) = some r := by rw [if_pos rfl] at H; exact H
    clear H
    have H := H1
    clear H1
    have H' := Aside0.mk H
    clear H
    have hnb24 := NB470_461.out
    have hnc24 := NB461_470.out
    have hcz25_0 : w18.cell? ⟨gb470, 0, none⟩ = some (.int .i64 0) := (za BK470.out 0).trans rfl
    have hcz25_1 : w18.cell? ⟨gb470, 1, none⟩ = some (.slice none 0 0) := (za BK470.out 1).trans rfl
    have hfz25_0 := zb BK470.out 0
    have hfz25_1 := zb BK470.out 1
    have hcz26_0 : w18.cell? ⟨gb461, 0, none⟩ = some (.int .i64 t456) := (za BK461.out 0).trans rfl
    have hcz26_1 : w18.cell? ⟨gb461, 1, none⟩ = some (.slice Ao14 t457.length co14) := (za BK461.out 1).trans rfl
    have hfz26_0 := zb BK461.out 0
    have hfz26_1 := zb BK461.out 1
    go_wp2_with (first | ((with_reducible refine ze (f := 7) rfl ?_); refine zv (some 35) rfl rfl Tryz.func7 (by kernel_rfl) rfl #[.agg #[.int .i64 t465, .slice Ao21 t466.length co21], .agg #[.int .i64 t456, .slice Ao14 t457.length co14]] rfl sqM ?_; (with_reducible refine (zY.calls k t465 _ _ t466 t456 _ _ t457 true _ ?side1 ?side2 ?side3 ?side4 A22.out).mono ?_); (case side1 => refine (Kd.zg (e := 3) (base := w.heap.size) (ok := fun k_ => (((True ∧ some k_ ≠ (.slice Ao10 t453.length co10 : Value).ownBlock) ∧ some k_ ≠ (.slice Ao14 t457.length co14 : Value).ownBlock) ∧ some k_ ≠ (.slice Ao16 t462.length co16 : Value).ownBlock)) (n := t466.length) (c := co21) ?_).2.2; exact (by refine sqR ?_; exact (Kd.zn (Kd.zp (p := ⟨gb470, 1, none⟩) (Kd.zp (p := ⟨gb470, 0, none⟩) (Kd.zz HO468.out BK470.out (by decide)) (fun _ hk => hk.2) (.int .i64 t465)) (fun _ hk => hk.2) (.slice Ao21 t466.length co21)) (fun _ h_ => h_.1)))); (case side2 => exact (Kd.zg HO468.out).2.1); (case side3 => refine (Kd.zg (e := 3) (base := w.heap.size) (ok := fun k_ => (((True ∧ some k_ ≠ (.slice Ao10 t453.length co10 : Value).ownBlock) ∧ some k_ ≠ (.slice Ao16 t462.length co16 : Value).ownBlock) ∧ some k_ ≠ (.slice Ao21 t466.length co21 : Value).ownBlock)) (n := t457.length) (c := co14) ?_).2.2; exact (by refine sqR ?_; exact (Kd.zn (Kd.zp (p := ⟨gb470, 1, none⟩) (Kd.zp (p := ⟨gb470, 0, none⟩) (Kd.zz HO459.out BK470.out (by decide)) (fun _ hk => hk.2) (.int .i64 t465)) (fun _ hk => hk.2) (.slice Ao21 t466.length co21)) (fun _ h_ => h_.1)))); (case side4 => exact (Kd.zg HO459.out).2.1); rintro e w27 ⟨rfl, hb⟩; refine ⟨_, rfl, ?_⟩; have n0_ := Aside0.mk (Kd.zx (by refine sqR ?_; exact (Kd.zn (Kd.zp (p := ⟨gb470, 1, none⟩) (Kd.zp (p := ⟨gb470, 0, none⟩) (Kd.zz HO455.out BK470.out (by decide)) (fun _ hk => hk.2) (.int .i64 t465)) (fun _ hk => hk.2) (.slice Ao21 t466.length co21)) (fun _ h_ => h_.1))) hb); have n1_ := Aside0.mk (Kd.zx (by refine sqR ?_; exact (Kd.zn (Kd.zp (p := ⟨gb470, 1, none⟩) (Kd.zp (p := ⟨gb470, 0, none⟩) (Kd.zz HO459.out BK470.out (by decide)) (fun _ hk => hk.2) (.int .i64 t465)) (fun _ hk => hk.2) (.slice Ao21 t466.length co21)) (fun _ h_ => h_.1))) hb); have n2_ := Aside0.mk (Kd.zx (by refine sqR ?_; exact (Kd.zn (Kd.zp (p := ⟨gb470, 1, none⟩) (Kd.zp (p := ⟨gb470, 0, none⟩) (Kd.zz HO464.out BK470.out (by decide)) (fun _ hk => hk.2) (.int .i64 t465)) (fun _ hk => hk.2) (.slice Ao21 t466.length co21)) (fun _ h_ => h_.1))) hb); have n3_ := Aside0.mk (Kd.zx (by refine sqR ?_; exact (Kd.zn (Kd.zp (p := ⟨gb470, 1, none⟩) (Kd.zp (p := ⟨gb470, 0, none⟩) (Kd.zz HO468.out BK470.out (by decide)) (fun _ hk => hk.2) (.int .i64 t465)) (fun _ hk => hk.2) (.slice Ao21 t466.length co21)) (fun _ h_ => h_.1))) hb); have n4_ := Aside0.mk (zd (g := gb461) (o := .cells #[.int .i64 t456, .slice Ao14 t457.length co14] 24 (0, 0)) (by refine sqK ?_; refine z6 ?_ NB461_470.out _; refine sqK ?_; refine z6 ?_ NB461_470.out _; refine sqK ?_; exact BK461.out) hb); have n5_ := Aside0.mk (zd (g := gb470) (o := .cells #[.int .i64 t465, .slice Ao21 t466.length co21] 24 (0, 0)) (by refine sqK ?_; refine zF (cs := #[.int .i64 t465, .slice none 0 0]) ?_ 1 _ rfl; refine sqK ?_; refine zF (cs := #[.int .i64 0, .slice none 0 0]) ?_ 0 _ rfl; refine sqK ?_; exact BK470.out) hb); have n6_ := Aside0.mk (zc sqB hb); clear HO455; clear HO459; clear HO464; clear HO468; clear BK461; clear BK470; clear HB; have HO455 := n0_; have HO459 := n1_; have HO464 := n2_; have HO468 := n3_; have BK461 := n4_; have BK470 := n5_; have HB := n6_; clear n0_ n1_ n2_ n3_ n4_ n5_ n6_; (try clear hb); (try clear hb2); (try clear hk); (try clear hi)))
    go_meet
    case rel => exact ⟨_, ((t469 != t460)), (sqD), H', ⟨by first | omega | exact Nat.le_refl _⟩, ⟨by refine sqR ?_; exact Kd.zn HO464.out (fun _ hk => by first | exact ⟨hk.1.2, hk.2⟩ | (refine ⟨?_, ?_⟩ <;> intro e_ <;> simp only [e_, ne_eq, not_true_eq_false, and_false, false_and] at hk))⟩, ⟨by refine sqR ?_; exact Kd.zn HO459.out (fun _ hk => by first | exact ⟨hk.1.2, hk.2⟩ | (refine ⟨?_, ?_⟩ <;> intro e_ <;> simp only [e_, ne_eq, not_true_eq_false, and_false, false_and] at hk))⟩, ⟨by refine sqR ?_; exact Kd.zn HO468.out (fun _ hk => by first | exact ⟨hk.2, hk.1.2⟩ | (refine ⟨?_, ?_⟩ <;> intro e_ <;> simp only [e_, ne_eq, not_true_eq_false, and_false, false_and] at hk))⟩, ⟨sqK BK461.out⟩, ⟨sqK BK470.out⟩, ⟨sqB⟩⟩
   ·replace c23 := Bool.eq_false_iff.mpr c23
    subst c23
    have H1 : (zf.j0 k a0 l1 t460 t462 t469 true t456 t457 t465 t466) = some r := by rw [if_neg (show ¬ (false = true) by decide)] at H; exact H
    clear H
    have H := H1
    clear H1
    have H' := Aside0.mk H
    clear H
    have hnb28 := NB470_461.out
    have hnc28 := NB461_470.out
    have hcz29_0 : w18.cell? ⟨gb470, 0, none⟩ = some (.int .i64 0) := (za BK470.out 0).trans rfl
    have hcz29_1 : w18.cell? ⟨gb470, 1, none⟩ = some (.slice none 0 0) := (za BK470.out 1).trans rfl
    have hfz29_0 := zb BK470.out 0
    have hfz29_1 := zb BK470.out 1
    have hcz30_0 : w18.cell? ⟨gb461, 0, none⟩ = some (.int .i64 t456) := (za BK461.out 0).trans rfl
    have hcz30_1 : w18.cell? ⟨gb461, 1, none⟩ = some (.slice Ao14 t457.length co14) := (za BK461.out 1).trans rfl
    have hfz30_0 := zb BK461.out 0
    have hfz30_1 := zb BK461.out 1
    go_wp2_with (first | ((with_reducible refine ze (f := 7) rfl ?_); refine zv (some 35) rfl rfl Tryz.func7 (by kernel_rfl) rfl #[.agg #[.int .i64 t465, .slice Ao21 t466.length co21], .agg #[.int .i64 t456, .slice Ao14 t457.length co14]] rfl sqM ?_; (with_reducible refine (zY.calls k t465 _ _ t466 t456 _ _ t457 false _ ?side1 ?side2 ?side3 ?side4 A22.out).mono ?_); (case side1 => refine (Kd.zg (e := 3) (base := w.heap.size) (ok := fun k_ => (((True ∧ some k_ ≠ (.slice Ao10 t453.length co10 : Value).ownBlock) ∧ some k_ ≠ (.slice Ao14 t457.length co14 : Value).ownBlock) ∧ some k_ ≠ (.slice Ao16 t462.length co16 : Value).ownBlock)) (n := t466.length) (c := co21) ?_).2.2; exact (by refine sqR ?_; exact (Kd.zn (Kd.zp (p := ⟨gb470, 1, none⟩) (Kd.zp (p := ⟨gb470, 0, none⟩) (Kd.zz HO468.out BK470.out (by decide)) (fun _ hk => hk.2) (.int .i64 t465)) (fun _ hk => hk.2) (.slice Ao21 t466.length co21)) (fun _ h_ => h_.1)))); (case side2 => exact (Kd.zg HO468.out).2.1); (case side3 => refine (Kd.zg (e := 3) (base := w.heap.size) (ok := fun k_ => (((True ∧ some k_ ≠ (.slice Ao10 t453.length co10 : Value).ownBlock) ∧ some k_ ≠ (.slice Ao16 t462.length co16 : Value).ownBlock) ∧ some k_ ≠ (.slice Ao21 t466.length co21 : Value).ownBlock)) (n := t457.length) (c := co14) ?_).2.2; exact (by refine sqR ?_; exact (Kd.zn (Kd.zp (p := ⟨gb470, 1, none⟩) (Kd.zp (p := ⟨gb470, 0, none⟩) (Kd.zz HO459.out BK470.out (by decide)) (fun _ hk => hk.2) (.int .i64 t465)) (fun _ hk => hk.2) (.slice Ao21 t466.length co21)) (fun _ h_ => h_.1)))); (case side4 => exact (Kd.zg HO459.out).2.1); rintro e w31 ⟨rfl, hb⟩; refine ⟨_, rfl, ?_⟩; have n0_ := Aside0.mk (Kd.zx (by refine sqR ?_; exact (Kd.zn (Kd.zp (p := ⟨gb470, 1, none⟩) (Kd.zp (p := ⟨gb470, 0, none⟩) (Kd.zz HO455.out BK470.out (by decide)) (fun _ hk => hk.2) (.int .i64 t465)) (fun _ hk => hk.2) (.slice Ao21 t466.length co21)) (fun _ h_ => h_.1))) hb); have n1_ := Aside0.mk (Kd.zx (by refine sqR ?_; exact (Kd.zn (Kd.zp (p := ⟨gb470, 1, none⟩) (Kd.zp (p := ⟨gb470, 0, none⟩) (Kd.zz HO459.out BK470.out (by decide)) (fun _ hk => hk.2) (.int .i64 t465)) (fun _ hk => hk.2) (.slice Ao21 t466.length co21)) (fun _ h_ => h_.1))) hb); have n2_ := Aside0.mk (Kd.zx (by refine sqR ?_; exact (Kd.zn (Kd.zp (p := ⟨gb470, 1, none⟩) (Kd.zp (p := ⟨gb470, 0, none⟩) (Kd.zz HO464.out BK470.out (by decide)) (fun _ hk => hk.2) (.int .i64 t465)) (fun _ hk => hk.2) (.slice Ao21 t466.length co21)) (fun _ h_ => h_.1))) hb); have n3_ := Aside0.mk (Kd.zx (by refine sqR ?_; exact (Kd.zn (Kd.zp (p := ⟨gb470, 1, none⟩) (Kd.zp (p := ⟨gb470, 0, none⟩) (Kd.zz HO468.out BK470.out (by decide)) (fun _ hk => hk.2) (.int .i64 t465)) (fun _ hk => hk.2) (.slice Ao21 t466.length co21)) (fun _ h_ => h_.1))) hb); have n4_ := Aside0.mk (zd (g := gb461) (o := .cells #[.int .i64 t456, .slice Ao14 t457.length co14] 24 (0, 0)) (by refine sqK ?_; refine z6 ?_ NB461_470.out _; refine sqK ?_; refine z6 ?_ NB461_470.out _; refine sqK ?_; exact BK461.out) hb); have n5_ := Aside0.mk (zd (g := gb470) (o := .cells #[.int .i64 t465, .slice Ao21 t466.length co21] 24 (0, 0)) (by refine sqK ?_; refine zF (cs := #[.int .i64 t465, .slice none 0 0]) ?_ 1 _ rfl; refine sqK ?_; refine zF (cs := #[.int .i64 0, .slice none 0 0]) ?_ 0 _ rfl; refine sqK ?_; exact BK470.out) hb); have n6_ := Aside0.mk (zc sqB hb); clear HO455; clear HO459; clear HO464; clear HO468; clear BK461; clear BK470; clear HB; have HO455 := n0_; have HO459 := n1_; have HO464 := n2_; have HO468 := n3_; have BK461 := n4_; have BK470 := n5_; have HB := n6_; clear n0_ n1_ n2_ n3_ n4_ n5_ n6_; (try clear hb); (try clear hb2); (try clear hk); (try clear hi)))
    go_meet
    case rel => exact ⟨_, (true), (sqD), H', ⟨by first | omega | exact Nat.le_refl _⟩, ⟨by refine sqR ?_; exact Kd.zn HO464.out (fun _ hk => by first | exact ⟨hk.1.2, hk.2⟩ | (refine ⟨?_, ?_⟩ <;> intro e_ <;> simp only [e_, ne_eq, not_true_eq_false, and_false, false_and] at hk))⟩, ⟨by refine sqR ?_; exact Kd.zn HO459.out (fun _ hk => by first | exact ⟨hk.1.2, hk.2⟩ | (refine ⟨?_, ?_⟩ <;> intro e_ <;> simp only [e_, ne_eq, not_true_eq_false, and_false, false_and] at hk))⟩, ⟨by refine sqR ?_; exact Kd.zn HO468.out (fun _ hk => by first | exact ⟨hk.2, hk.1.2⟩ | (refine ⟨?_, ?_⟩ <;> intro e_ <;> simp only [e_, ne_eq, not_true_eq_false, and_false, false_and] at hk))⟩, ⟨sqK BK461.out⟩, ⟨sqK BK470.out⟩, ⟨sqB⟩⟩
  case rest =>
   clear HC8
   try clear c1
   try clear c2
   try clear p2
   try clear c3
   try clear c3b0
   try clear c3b1
   try clear c4
   try clear c5
   try clear c6
   try clear c7
   try clear c19
   try clear c23
   try clear c24
   try clear c28
   try clear hcz13_0
   try clear hcz13_1
   try clear hcz20_0
   try clear hcz20_1
   try clear hcz25_0
   try clear hcz25_1
   try clear hcz26_0
   try clear hcz26_1
   try clear hcz29_0
   try clear hcz29_1
   try clear hcz30_0
   try clear hcz30_1
   try clear hfz13_0
   try clear hfz13_1
   try clear hfz20_0
   try clear hfz20_1
   try clear hfz25_0
   try clear hfz25_1
   try clear hfz26_0
   try clear hfz26_1
   try clear hfz29_0
   try clear hfz29_1
   try clear hfz30_0
   try clear hfz30_1
   obtain ⟨kq, x41_7, rfl, HA, HJ7, HO_7, HO_462001, HO_471001, BK461, BK470, HB⟩ := hcut
   cases kq with
   | zero => exact absurd HA.out (by simp [zf.j0])
   | succ kj7 =>
    have H := HA.out
    clear HA
    simp only [zf.j0] at H
    by_cases c32 : x41_7 = true
    ·subst c32
     have H1 : (none) = some r := by rw [if_pos rfl] at H; exact H
     clear H
     have H := H1
     clear H1
     exact absurd H (by simp)
    ·replace c32 := Bool.eq_false_iff.mpr c32
     subst c32
     have H1 : ((qh.f kj7 l1).bind fun t472 => ((qM.f kj7 t462 t472).bind fun t475 => (if t475 = true then ((qo.f kj7 t462 1).bind fun bt476 => (if bt476.1 < 0 then (zf.j1 kj7 a0 l1 t460 true t456 t457 t465 t466) else ((zY.f kj7 t465 t466 t456 t457).bind fun t478 => (if t478 = true then (zf.j1 kj7 a0 l1 t460 (t469 != t460) t456 t457 t465 t466) else (zf.j1 kj7 a0 l1 t460 true t456 t457 t465 t466))))) else (none)))) = some r := by rw [if_neg (show ¬ (false = true) by decide)] at H; exact H
     clear H
     have H := H1
     clear H1
     replace H := Option.bind_eq_some_iff.mp H
     obtain ⟨t472, A330, H⟩ := H
     replace H : ((qM.f kj7 t462 t472).bind fun t475 => (if t475 = true then ((qo.f kj7 t462 1).bind fun bt476 => (if bt476.1 < 0 then (zf.j1 kj7 a0 l1 t460 true t456 t457 t465 t466) else ((zY.f kj7 t465 t466 t456 t457).bind fun t478 => (if t478 = true then (zf.j1 kj7 a0 l1 t460 (t469 != t460) t456 t457 t465 t466) else (zf.j1 kj7 a0 l1 t460 true t456 t457 t465 t466))))) else (none))) = some r := H
     have A33 := Aside0.mk A330
     clear A330
     replace H := Option.bind_eq_some_iff.mp H
     obtain ⟨t475, A340, H⟩ := H
     replace H : (if t475 = true then ((qo.f kj7 t462 1).bind fun bt476 => (if bt476.1 < 0 then (zf.j1 kj7 a0 l1 t460 true t456 t457 t465 t466) else ((zY.f kj7 t465 t466 t456 t457).bind fun t478 => (if t478 = true then (zf.j1 kj7 a0 l1 t460 (t469 != t460) t456 t457 t465 t466) else (zf.j1 kj7 a0 l1 t460 true t456 t457 t465 t466))))) else (none)) = some r := H
     have A34 := Aside0.mk A340
     clear A340
     by_cases c35 : t475 = true
     ·subst c35
      have H1 : ((qo.f kj7 t462 1).bind fun bt476 => (if bt476.1 < 0 then (zf.j1 kj7 a0 l1 t460 true t456 t457 t465 t466) else ((zY.f kj7 t465 t466 t456 t457).bind fun t478 => (if t478 = true then (zf.j1 kj7 a0 l1 t460 (t469 != t460) t456 t457 t465 t466) else (zf.j1 kj7 a0 l1 t460 true t456 t457 t465 t466))))) = some r := by rw [if_pos rfl] at H; exact H
      clear H
      have H := H1
      clear H1
      replace H := Option.bind_eq_some_iff.mp H
      obtain ⟨⟨t476, t477⟩, A360, H⟩ := H
      replace H : (if t476 < 0 then (zf.j1 kj7 a0 l1 t460 true t456 t457 t465 t466) else ((zY.f kj7 t465 t466 t456 t457).bind fun t478 => (if t478 = true then (zf.j1 kj7 a0 l1 t460 (t469 != t460) t456 t457 t465 t466) else (zf.j1 kj7 a0 l1 t460 true t456 t457 t465 t466)))) = some r := H
      have A36 := Aside0.mk A360
      clear A360
      have HC37 := Aside0.mk H
      clear H
      go_upto_region 12 with (first | ((with_reducible refine ze (f := 5) rfl ?_); refine zv (some 44) rfl rfl Tryz.func5 (by kernel_rfl) rfl #[.slice A1 l1.length c1] rfl sqM ?_; (with_reducible refine (qh.calls kj7 _ _ l1 t472 _ ?side1 ?side2 A33.out).mono ?_); (case side1 => exact sqC (Kd.zt HR1.out HB.out)); (case side2 => exact HC1.out); rintro e w38 ⟨v473, rfl, ho0, hb⟩; refine ⟨_, rfl, ?_⟩; have n0_ := Aside0.mk (Kd.zw (sqR HO_7.out) (Kd.zQ ho0) hb); have n1_ := Aside0.mk (Kd.zw (sqR HO_462001.out) (Kd.zQ ho0) hb); have n2_ := Aside0.mk (Kd.zw (sqR HO_471001.out) (Kd.zQ ho0) hb); have n3_ := Aside0.mk (Kd.zD (Kd.zP (Kd.zP (Kd.zP ho0 (Kd.qt (sqR HO_7.out))) (Kd.qt (sqR HO_462001.out))) (Kd.qt (sqR HO_471001.out))) (zh sqB)); have n4_ := Aside0.mk (zd (g := gb461) (o := .cells #[.int .i64 t456, .slice Ao14 t457.length co14] 24 (0, 0)) (sqK BK461.out) hb); have n5_ := Aside0.mk (zd (g := gb470) (o := .cells #[.int .i64 t465, .slice Ao21 t466.length co21] 24 (0, 0)) (sqK BK470.out) hb); have n6_ := Aside0.mk (zc sqB hb); clear HO_7; clear HO_462001; clear HO_471001; clear BK461; clear BK470; clear HB; have HO_7 := n0_; have HO_462001 := n1_; have HO_471001 := n2_; have HO474 := n3_; have BK461 := n4_; have BK470 := n5_; have HB := n6_; clear n0_ n1_ n2_ n3_ n4_ n5_ n6_; (try clear hb); (try clear hb2); (try clear hk); (try clear hi); (try clear ho0); obtain ⟨Ao39, co39, eo39⟩ := Kd.zK HO474.out; subst eo39) | ((with_reducible refine ze (f := 8) rfl ?_); refine zv (some 45) rfl rfl Tryz.func8 (by kernel_rfl) rfl #[.slice Ao16 t462.length co16, .slice Ao39 t472.length co39] rfl sqM ?_; (with_reducible refine (qM.calls kj7 _ _ t462 _ _ t472 true _ ?side1 ?side2 ?side3 ?side4 A34.out).mono ?_); (case side1 => exact sqC (Kd.zg HO_7.out).2.2); (case side2 => exact (Kd.zg HO_7.out).2.1); (case side3 => exact sqC (Kd.zg HO474.out).2.2); (case side4 => exact (Kd.zg HO474.out).2.1); rintro e w' ⟨rfl, ⟨nd, rfl⟩⟩; refine ⟨_, rfl, ?_⟩) | ((with_reducible refine ze (f := 9) rfl ?_); refine zv (some 49) rfl rfl Tryz.func9 (by kernel_rfl) rfl #[.slice Ao16 t462.length co16, .int .i64 1] rfl sqM ?_; (with_reducible refine (qo.calls kj7 (fun k_ => some k_ = (.slice Ao16 t462.length co16 : Value).ownBlock) (.slice Ao16 t462.length co16) t462 1 t476 t477 w _ ?side1 ?side2 A36.out).mono ?_); (case side1 => repeat (first | (with_reducible first | exact HB.out | apply jC | apply qb | apply qg | refine jk ?_ GE461.out | refine jk ?_ GE470.out) | exact HB.out)); (case side2 => exact Kd.QR rfl HO_7.out); rintro e w40 ⟨rfl, hy0, hb, hkp⟩; refine ⟨_, rfl, ?_⟩; have n0_ := Aside0.mk (Kd.V5 rfl hy0 (fun k_ e_ => HO_7.out.1 k_ e_)); have n1_ := Aside0.mk (Kd.zn (ok' := fun k_ => some k_ ≠ (.slice Ao16 t462.length co16 : Value).ownBlock ∧ some k_ ≠ (.slice Ao21 t466.length co21 : Value).ownBlock ∧ some k_ ≠ (.slice Ao39 t472.length co39 : Value).ownBlock) (Kd.QT (HO_462001.out) hkp (fun k_ hk_ hs_ => by first | exact hk_.1.1 hs_ | (have e_ : some k_ = _ := hs_; simp only [e_, ne_eq, not_true_eq_false, and_false, false_and] at hk_))) (fun k_ hk_ => by first | exact ⟨hk_.1.1.1, hk_.1.1.2, hk_.1.2⟩ | (refine ⟨?_, ?_, ?_⟩ <;> intro e_ <;> simp only [e_, ne_eq, not_true_eq_false, and_false, false_and] at hk_))); have n2_ := Aside0.mk (Kd.zn (ok' := fun k_ => some k_ ≠ (.slice Ao16 t462.length co16 : Value).ownBlock ∧ some k_ ≠ (.slice Ao14 t457.length co14 : Value).ownBlock ∧ some k_ ≠ (.slice Ao39 t472.length co39 : Value).ownBlock) (Kd.QT (HO_471001.out) hkp (fun k_ hk_ hs_ => by first | exact hk_.1.1 hs_ | (have e_ : some k_ = _ := hs_; simp only [e_, ne_eq, not_true_eq_false, and_false, false_and] at hk_))) (fun k_ hk_ => by first | exact ⟨hk_.1.1.1, hk_.1.1.2, hk_.1.2⟩ | (refine ⟨?_, ?_, ?_⟩ <;> intro e_ <;> simp only [e_, ne_eq, not_true_eq_false, and_false, false_and] at hk_))); have n3_ := Aside0.mk (Zf (sqK BK461.out) hkp (fun hs_ => (fun e_ => (Kd.Qt HO_7.out BK461.out (by decide)) e_) hs_)); have n4_ := Aside0.mk (Zf (sqK BK470.out) hkp (fun hs_ => (fun e_ => (Kd.Qt HO_7.out BK470.out (by decide)) e_) hs_)); have n5_ := Aside0.mk (Kd.zn (ok' := fun k_ => some k_ ≠ (.slice Ao16 t462.length co16 : Value).ownBlock ∧ some k_ ≠ (.slice Ao14 t457.length co14 : Value).ownBlock ∧ some k_ ≠ (.slice Ao21 t466.length co21 : Value).ownBlock) (Kd.QT (HO474.out) hkp (fun k_ hk_ hs_ => by first | exact hk_.1.1.2 hs_ | (have e_ : some k_ = _ := hs_; simp only [e_, ne_eq, not_true_eq_false, and_false, false_and] at hk_))) (fun k_ hk_ => by first | exact ⟨hk_.1.1.1.2, hk_.1.1.2, hk_.1.2⟩ | (refine ⟨?_, ?_, ?_⟩ <;> intro e_ <;> simp only [e_, ne_eq, not_true_eq_false, and_false, false_and] at hk_))); have n6_ := Aside0.mk (hb); clear HO_7; clear HO_462001; clear HO_471001; clear BK461; clear BK470; clear HO474; clear HB; have HO_7 := n0_; have HO_462001 := n1_; have HO_471001 := n2_; have BK461 := n3_; have BK470 := n4_; have HO474 := n5_; have HB := n6_; clear n0_ n1_ n2_ n3_ n4_ n5_ n6_; (try clear hb); (try clear hkp); (try clear hy0)))
      (try simp only [Act.put, List.setIfInBounds_toArray, List.set_cons_zero, List.set_cons_succ])
      go_cut [62] (fun v62 wc => ∃ (kq : Nat) (x62_36 : Bool), v62 = .bool x62_36 ∧ Aside0 (zf.j1 kq a0 l1 t460 x62_36 t456 t457 t465 t466 = some r) ∧ Aside0 (kq ≤ kj7) ∧ Aside0 (Kd.R (Kd.int .i64) 3 wc w.heap.size (fun k_ => some k_ ≠ ((.slice Ao21 t466.length co21) : Value).ownBlock) (.slice Ao14 t457.length co14) t457) ∧ Aside0 (Kd.R (Kd.int .i64) 3 wc w.heap.size (fun k_ => some k_ ≠ ((.slice Ao14 t457.length co14) : Value).ownBlock) (.slice Ao21 t466.length co21) t466) ∧ Aside0 (wc.heap[gb461]? = some (.cells #[.int .i64 t456, (.slice Ao14 t457.length co14)] 24 (0, 0))) ∧ Aside0 (wc.heap[gb470]? = some (.cells #[.int .i64 t465, (.slice Ao21 t466.length co21)] 24 (0, 0))) ∧ Aside0 (Below w.heap.size w wc))
      case first =>
       have H := HC37.out
       clear HC37
       by_cases c41 : t476 < 0
       ·rw [if_pos c41] at H
        have c41b0 : decide (t476 < 0) = true := decide_eq_true c41
        clear c41
        (first | rw [c41b0] | (simp only [zi, zj]; rw [c41b0]) | skip)
        have H' := Aside0.mk H
        clear H
        go_wp2
        go_meet
        case rel => exact ⟨_, (true), (sqD), H', ⟨by have := HJ7.out; first | omega | exact Nat.le_refl _⟩, ⟨by refine sqR ?_; exact Kd.zn HO_462001.out (fun _ hk => hk.2.1)⟩, ⟨by refine sqR ?_; exact Kd.zn HO_471001.out (fun _ hk => hk.2.1)⟩, ⟨sqK BK461.out⟩, ⟨sqK BK470.out⟩, ⟨sqB⟩⟩
       ·rw [if_neg c41] at H
        have c41b0 : decide (t476 < 0) = false := decide_eq_false c41
        clear c41
        (first | rw [c41b0] | (simp only [zi, zj]; rw [c41b0]) | skip)
        replace H := Option.bind_eq_some_iff.mp H
        obtain ⟨t478, A420, H⟩ := H
        replace H : (if t478 = true then (zf.j1 kj7 a0 l1 t460 (t469 != t460) t456 t457 t465 t466) else (zf.j1 kj7 a0 l1 t460 true t456 t457 t465 t466)) = some r := H
        have A42 := Aside0.mk A420
        clear A420
        by_cases c43 : t478 = true
        ·subst c43
         have H1 : (zf.j1 kj7 a0 l1 t460 (t469 != t460) t456 t457 t465 t466) = some r := by rw [if_pos rfl] at H; exact H
         clear H
         have H := H1
         clear H1
         have H' := Aside0.mk H
         clear H
         have hnb44 := NB470_461.out
         have hnc44 := NB461_470.out
         have hcz45_0 : w40.cell? ⟨gb470, 0, none⟩ = some (.int .i64 t465) := (za BK470.out 0).trans rfl
         have hcz45_1 : w40.cell? ⟨gb470, 1, none⟩ = some (.slice Ao21 t466.length co21) := (za BK470.out 1).trans rfl
         have hfz45_0 := zb BK470.out 0
         have hfz45_1 := zb BK470.out 1
         have hcz46_0 : w40.cell? ⟨gb461, 0, none⟩ = some (.int .i64 t456) := (za BK461.out 0).trans rfl
         have hcz46_1 : w40.cell? ⟨gb461, 1, none⟩ = some (.slice Ao14 t457.length co14) := (za BK461.out 1).trans rfl
         have hfz46_0 := zb BK461.out 0
         have hfz46_1 := zb BK461.out 1
         go_wp2_with (first | (go_at_call 7; (try simp only [zi, zj]); (with_reducible refine (zY.calls kj7 t465 _ _ t466 t456 _ _ t457 true _ ?side1 ?side2 ?side3 ?side4 A42.out).mono ?_); (case side1 => exact sqC (Kd.zg HO_471001.out).2.2); (case side2 => exact (Kd.zg HO_471001.out).2.1); (case side3 => exact sqC (Kd.zg HO_462001.out).2.2); (case side4 => exact (Kd.zg HO_462001.out).2.1); rintro e w47 ⟨rfl, hb⟩; have n0_ := Aside0.mk (Kd.zx (sqR HO_7.out) hb); have n1_ := Aside0.mk (Kd.zx (sqR HO_462001.out) hb); have n2_ := Aside0.mk (Kd.zx (sqR HO_471001.out) hb); have n3_ := Aside0.mk (Kd.zx (sqR HO474.out) hb); have n4_ := Aside0.mk (zd (g := gb461) (o := .cells #[.int .i64 t456, .slice Ao14 t457.length co14] 24 (0, 0)) (sqK BK461.out) hb); have n5_ := Aside0.mk (zd (g := gb470) (o := .cells #[.int .i64 t465, .slice Ao21 t466.length co21] 24 (0, 0)) (sqK BK470.out) hb); have n6_ := Aside0.mk (zc sqB hb); clear HO_7; clear HO_462001; clear HO_471001; clear HO474; clear BK461; clear BK470; clear HB; have HO_7 := n0_; have HO_462001 := n1_; have HO_471001 := n2_; have HO474 := n3_; have BK461 := n4_; have BK470 := n5_; have HB := n6_; clear n0_ n1_ n2_ n3_ n4_ n5_ n6_; (try clear hb); (try clear hb2); (try clear hk); (try clear hi)))
         go_meet
         case rel => exact ⟨_, ((t469 != t460)), (sqD), H', ⟨by have := HJ7.out; first | omega | exact Nat.le_refl _⟩, ⟨by refine sqR ?_; exact Kd.zn HO_462001.out (fun _ hk => hk.2.1)⟩, ⟨by refine sqR ?_; exact Kd.zn HO_471001.out (fun _ hk => hk.2.1)⟩, ⟨sqK BK461.out⟩, ⟨sqK BK470.out⟩, ⟨sqB⟩⟩
        ·replace c43 := Bool.eq_false_iff.mpr c43
         subst c43
         have H1 : (zf.j1 kj7 a0 l1 t460 true t456 t457 t465 t466) = some r := by rw [if_neg (show ¬ (false = true) by decide)] at H; exact H
         clear H
         have H := H1
         clear H1
         have H' := Aside0.mk H
         clear H
         have hnb48 := NB470_461.out
         have hnc48 := NB461_470.out
         have hcz49_0 : w40.cell? ⟨gb470, 0, none⟩ = some (.int .i64 t465) := (za BK470.out 0).trans rfl
         have hcz49_1 : w40.cell? ⟨gb470, 1, none⟩ = some (.slice Ao21 t466.length co21) := (za BK470.out 1).trans rfl
         have hfz49_0 := zb BK470.out 0
         have hfz49_1 := zb BK470.out 1
         have hcz50_0 : w40.cell? ⟨gb461, 0, none⟩ = some (.int .i64 t456) := (za BK461.out 0).trans rfl
         have hcz50_1 : w40.cell? ⟨gb461, 1, none⟩ = some (.slice Ao14 t457.length co14) := (za BK461.out 1).trans rfl
         have hfz50_0 := zb BK461.out 0
         have hfz50_1 := zb BK461.out 1
         go_wp2_with (first | (go_at_call 7; (try simp only [zi, zj]); (with_reducible refine (zY.calls kj7 t465 _ _ t466 t456 _ _ t457 false _ ?side1 ?side2 ?side3 ?side4 A42.out).mono ?_); (case side1 => exact sqC (Kd.zg HO_471001.out).2.2); (case side2 => exact (Kd.zg HO_471001.out).2.1); (case side3 => exact sqC (Kd.zg HO_462001.out).2.2); (case side4 => exact (Kd.zg HO_462001.out).2.1); rintro e w51 ⟨rfl, hb⟩; have n0_ := Aside0.mk (Kd.zx (sqR HO_7.out) hb); have n1_ := Aside0.mk (Kd.zx (sqR HO_462001.out) hb); have n2_ := Aside0.mk (Kd.zx (sqR HO_471001.out) hb); have n3_ := Aside0.mk (Kd.zx (sqR HO474.out) hb); have n4_ := Aside0.mk (zd (g := gb461) (o := .cells #[.int .i64 t456, .slice Ao14 t457.length co14] 24 (0, 0)) (sqK BK461.out) hb); have n5_ := Aside0.mk (zd (g := gb470) (o := .cells #[.int .i64 t465, .slice Ao21 t466.length co21] 24 (0, 0)) (sqK BK470.out) hb); have n6_ := Aside0.mk (zc sqB hb); clear HO_7; clear HO_462001; clear HO_471001; clear HO474; clear BK461; clear BK470; clear HB; have HO_7 := n0_; have HO_462001 := n1_; have HO_471001 := n2_; have HO474 := n3_; have BK461 := n4_; have BK470 := n5_; have HB := n6_; clear n0_ n1_ n2_ n3_ n4_ n5_ n6_; (try clear hb); (try clear hb2); (try clear hk); (try clear hi)))
         go_meet
         case rel => exact ⟨_, (true), (sqD), H', ⟨by have := HJ7.out; first | omega | exact Nat.le_refl _⟩, ⟨by refine sqR ?_; exact Kd.zn HO_462001.out (fun _ hk => hk.2.1)⟩, ⟨by refine sqR ?_; exact Kd.zn HO_471001.out (fun _ hk => hk.2.1)⟩, ⟨sqK BK461.out⟩, ⟨sqK BK470.out⟩, ⟨sqB⟩⟩
      case rest =>
       clear HC37
       try clear c1
       try clear c2
       try clear p2
       try clear c3
       try clear c3b0
       try clear c3b1
       try clear c4
       try clear c5
       try clear c6
       try clear c7
       try clear c8
       try clear c9
       try clear c19
       try clear c23
       try clear c24
       try clear c28
       try clear c32
       try clear c35
       try clear c41
       try clear c41b0
       try clear c43
       try clear c44
       try clear c48
       try clear hcz13_0
       try clear hcz13_1
       try clear hcz20_0
       try clear hcz20_1
       try clear hcz25_0
       try clear hcz25_1
       try clear hcz26_0
       try clear hcz26_1
       try clear hcz29_0
       try clear hcz29_1
       try clear hcz30_0
       try clear hcz30_1
       try clear hcz45_0
       try clear hcz45_1
       try clear hcz46_0
       try clear hcz46_1
       try clear hcz49_0
       try clear hcz49_1
       try clear hcz50_0
       try clear hcz50_1
       try clear hfz13_0
       try clear hfz13_1
       try clear hfz20_0
       try clear hfz20_1
       try clear hfz25_0
       try clear hfz25_1
       try clear hfz26_0
       try clear hfz26_1
       try clear hfz29_0
       try clear hfz29_1
       try clear hfz30_0
       try clear hfz30_1
       try clear hfz45_0
       try clear hfz45_1
       try clear hfz46_0
       try clear hfz46_1
       try clear hfz49_0
       try clear hfz49_1
       try clear hfz50_0
       try clear hfz50_1
       try clear p2
       obtain ⟨kq, x62_36, rfl, HA, HJ36, HO_462001, HO_471001, BK461, BK470, HB⟩ := hcut
       cases kq with
       | zero => exact absurd HA.out (by simp [zf.j1])
       | succ kj36 =>
        have H := HA.out
        clear HA
        simp only [zf.j1] at H
        by_cases c52 : x62_36 = true
        ·subst c52
         have H1 : (none) = some r := by rw [if_pos rfl] at H; exact H
         clear H
         have H := H1
         clear H1
         exact absurd H (by simp)
        ·replace c52 := Bool.eq_false_iff.mpr c52
         subst c52
         have H1 : ((js.f kj36 t465 t466 1).bind fun bt479 => ((qU.f kj36 t465 bt479.2 1).bind fun t481 => (if t481 < 0 then (none) else (if t481 = bt479.1 then ((qh.f kj36 l1).bind fun t482 => ((zV.f kj36 a0 t482).bind fun bt485 => ((zY.f kj36 bt485.1 bt485.2.1 t456 t457).bind fun t491 => (if t491 = true then (zf.j2 kj36 bt479.1 (bt485.2.2 != t460) t465 bt479.2) else (zf.j2 kj36 bt479.1 true t465 bt479.2))))) else (none))))) = some r := by rw [if_neg (show ¬ (false = true) by decide)] at H; exact H
         clear H
         have H := H1
         clear H1
         replace H := Option.bind_eq_some_iff.mp H
         obtain ⟨⟨t479, t480⟩, A530, H⟩ := H
         replace H : ((qU.f kj36 t465 t480 1).bind fun t481 => (if t481 < 0 then (none) else (if t481 = t479 then ((qh.f kj36 l1).bind fun t482 => ((zV.f kj36 a0 t482).bind fun bt485 => ((zY.f kj36 bt485.1 bt485.2.1 t456 t457).bind fun t491 => (if t491 = true then (zf.j2 kj36 t479 (bt485.2.2 != t460) t465 t480) else (zf.j2 kj36 t479 true t465 t480))))) else (none)))) = some r := H
         have A53 := Aside0.mk A530
         clear A530
         replace H := Option.bind_eq_some_iff.mp H
         obtain ⟨t481, A540, H⟩ := H
         replace H : (if t481 < 0 then (none) else (if t481 = t479 then ((qh.f kj36 l1).bind fun t482 => ((zV.f kj36 a0 t482).bind fun bt485 => ((zY.f kj36 bt485.1 bt485.2.1 t456 t457).bind fun t491 => (if t491 = true then (zf.j2 kj36 t479 (bt485.2.2 != t460) t465 t480) else (zf.j2 kj36 t479 true t465 t480))))) else (none))) = some r := H
         have A54 := Aside0.mk A540
         clear A540
         by_cases c55 : t481 < 0
         ·rw [if_pos c55] at H
          exact absurd H (by simp)
         ·rw [if_neg c55] at H
          have c55b0 : decide (t481 < 0) = false := decide_eq_false c55
          clear c55
          by_cases c56 : t481 = t479
          ·rw [if_pos c56] at H
           have c56b0 : (t481 == t479) = true := beq_iff_eq.mpr c56
           have c56b1 : (t481 != t479) = false := bne_eq_false_iff_eq.mpr c56
           clear c56
           replace H := Option.bind_eq_some_iff.mp H
           obtain ⟨t482, A570, H⟩ := H
           replace H : ((zV.f kj36 a0 t482).bind fun bt485 => ((zY.f kj36 bt485.1 bt485.2.1 t456 t457).bind fun t491 => (if t491 = true then (zf.j2 kj36 t479 (bt485.2.2 != t460) t465 t480) else (zf.j2 kj36 t479 true t465 t480)))) = some r := H
           have A57 := Aside0.mk A570
           clear A570
           replace H := Option.bind_eq_some_iff.mp H
           obtain ⟨⟨t485, t486, t489⟩, A580, H⟩ := H
           replace H : ((zY.f kj36 t485 t486 t456 t457).bind fun t491 => (if t491 = true then (zf.j2 kj36 t479 (t489 != t460) t465 t480) else (zf.j2 kj36 t479 true t465 t480))) = some r := H
           have A58 := Aside0.mk A580
           clear A580
           have HC59 := Aside0.mk H
           clear H
           have hnb60 := NB470_461.out
           have hnc60 := NB461_470.out
           have hcz61_0 : wc.cell? ⟨gb470, 0, none⟩ = some (.int .i64 t465) := (za BK470.out 0).trans rfl
           have hcz61_1 : wc.cell? ⟨gb470, 1, none⟩ = some (.slice Ao21 t466.length co21) := (za BK470.out 1).trans rfl
           have hfz61_0 := zb BK470.out 0
           have hfz61_1 := zb BK470.out 1
           go_upto_region 23 with (first | ((with_reducible refine ze (f := 10) rfl ?_); refine zv (some 65) rfl rfl Tryz.func10 (by kernel_rfl) rfl #[.agg #[.int .i64 t465, .slice Ao21 t466.length co21], .int .i64 1] rfl sqM ?_; (with_reducible refine (js.calls kj36 t465 (fun k_ => some k_ = (.slice Ao21 t466.length co21 : Value).ownBlock) (.slice Ao21 t466.length co21) t466 1 t479 t480 w _ ?side1 ?side2 A53.out).mono ?_); (case side1 => repeat (first | (with_reducible first | exact HB.out | apply jC | apply qb | apply qg | refine jk ?_ GE461.out | refine jk ?_ GE470.out) | exact HB.out)); (case side2 => exact Kd.QR rfl HO_471001.out); rintro e w62 ⟨rfl, hy0, hb, hkp⟩; refine ⟨_, rfl, ?_⟩; have n0_ := Aside0.mk (Kd.zn (ok' := fun k_ => some k_ ≠ (.slice Ao21 t466.length co21 : Value).ownBlock) (Kd.QT (HO_462001.out) hkp (fun k_ hk_ hs_ => by first | exact hk_ hs_ | (have e_ : some k_ = _ := hs_; simp only [e_, ne_eq, not_true_eq_false, and_false, false_and] at hk_))) (fun k_ hk_ => hk_.1)); have n1_ := Aside0.mk (Kd.V5 rfl hy0 (fun k_ e_ => HO_471001.out.1 k_ e_)); have n2_ := Aside0.mk (Zf (sqK BK461.out) hkp (fun hs_ => (fun e_ => (Kd.Qt HO_471001.out BK461.out (by decide)) e_) hs_)); have n3_ := Aside0.mk (Zf (sqK BK470.out) hkp (fun hs_ => (fun e_ => (Kd.Qt HO_471001.out BK470.out (by decide)) e_) hs_)); have n4_ := Aside0.mk (hb); clear HO_462001; clear HO_471001; clear BK461; clear BK470; clear HB; have HO_462001 := n0_; have HO_471001 := n1_; have BK461 := n2_; have BK470 := n3_; have HB := n4_; clear n0_ n1_ n2_ n3_ n4_; (try clear hb); (try clear hkp); (try clear hy0); have hcz63_0 : w62.cell? ⟨gb470, 0, none⟩ = some (.int .i64 t465) := (za BK470.out 0).trans rfl; have hcz63_1 : w62.cell? ⟨gb470, 1, none⟩ = some (.slice Ao21 t466.length co21) := (za BK470.out 1).trans rfl; have hfz63_0 := zb BK470.out 0; have hfz63_1 := zb BK470.out 1) | ((with_reducible refine ze (f := 11) rfl ?_); refine zv (some 68) rfl rfl Tryz.func11 (by kernel_rfl) rfl #[.agg #[.int .i64 t465, .slice Ao21 t480.length co21], .int .i64 1] rfl (by (try simp only [List.map_toArray, List.map_cons, List.map_nil]); first | done | (rw [show t480.length = t466.length from (Kd.zg HO_471001.out).1.symm] <;> rfl) | rfl | (simp only [List.length_drop, List.length_take]; rfl)) ?_; (with_reducible refine (qU.calls kj36 t465 _ _ t480 1 t481 _ ?side1 ?side2 A54.out).mono ?_); (case side1 => exact sqC (Kd.zg HO_471001.out).2.2); (case side2 => rw [show t480.length = t466.length from (Kd.zg HO_471001.out).1.symm]; exact (Kd.zg HO_471001.out).2.1); rintro e w64 ⟨rfl, hb⟩; refine ⟨_, rfl, ?_⟩; have n0_ := Aside0.mk (Kd.zx (sqR HO_462001.out) hb); have n1_ := Aside0.mk (Kd.zx (sqR HO_471001.out) hb); have n2_ := Aside0.mk (zd (g := gb461) (o := .cells #[.int .i64 t456, .slice Ao14 t457.length co14] 24 (0, 0)) (sqK BK461.out) hb); have n3_ := Aside0.mk (zd (g := gb470) (o := .cells #[.int .i64 t465, .slice Ao21 t466.length co21] 24 (0, 0)) (sqK BK470.out) hb); have n4_ := Aside0.mk (zc sqB hb); clear HO_462001; clear HO_471001; clear BK461; clear BK470; clear HB; have HO_462001 := n0_; have HO_471001 := n1_; have BK461 := n2_; have BK470 := n3_; have HB := n4_; clear n0_ n1_ n2_ n3_ n4_; (try clear hb); (try clear hb2); (try clear hk); (try clear hi)) | ((with_reducible refine ze (f := 5) rfl ?_); refine zv (some 77) rfl rfl Tryz.func5 (by kernel_rfl) rfl #[.slice A1 l1.length c1] rfl sqM ?_; (with_reducible refine (qh.calls kj36 _ _ l1 t482 _ ?side1 ?side2 A57.out).mono ?_); (case side1 => exact sqC (Kd.zt HR1.out HB.out)); (case side2 => exact HC1.out); rintro e w65 ⟨v483, rfl, ho0, hb⟩; refine ⟨_, rfl, ?_⟩; have n0_ := Aside0.mk (Kd.zw (sqR HO_462001.out) (Kd.zQ ho0) hb); have n1_ := Aside0.mk (Kd.zw (sqR HO_471001.out) (Kd.zQ ho0) hb); have n2_ := Aside0.mk (Kd.zD (Kd.zP (Kd.zP ho0 (Kd.qt (sqR HO_462001.out))) (Kd.qt (sqR HO_471001.out))) (zh sqB)); have n3_ := Aside0.mk (zd (g := gb461) (o := .cells #[.int .i64 t456, .slice Ao14 t457.length co14] 24 (0, 0)) (sqK BK461.out) hb); have n4_ := Aside0.mk (zd (g := gb470) (o := .cells #[.int .i64 t465, .slice Ao21 t466.length co21] 24 (0, 0)) (sqK BK470.out) hb); have n5_ := Aside0.mk (zc sqB hb); clear HO_462001; clear HO_471001; clear BK461; clear BK470; clear HB; have HO_462001 := n0_; have HO_471001 := n1_; have HO484 := n2_; have BK461 := n3_; have BK470 := n4_; have HB := n5_; clear n0_ n1_ n2_ n3_ n4_ n5_; (try clear hb); (try clear hb2); (try clear hk); (try clear hi); (try clear ho0); obtain ⟨Ao66, co66, eo66⟩ := Kd.zK HO484.out; subst eo66) | ((with_reducible refine ze (f := 6) rfl ?_); refine zv (some 78) rfl rfl Tryz.func6 (by kernel_rfl) rfl #[.int .i64 a0, .slice Ao66 t482.length co66] rfl sqM ?_; (with_reducible refine (zV.calls kj36 a0 _ _ t482 t485 t486 t489 _ ?side1 ?side2 A58.out).mono ?_); (case side1 => exact sqC (Kd.zg HO484.out).2.2); (case side2 => exact (Kd.zg HO484.out).2.1); rintro e w67 ⟨v487, rfl, ho0, hb⟩; refine ⟨_, rfl, ?_⟩; have n0_ := Aside0.mk (Kd.zw (sqR HO_462001.out) (Kd.zQ ho0) hb); have n1_ := Aside0.mk (Kd.zw (sqR HO_471001.out) (Kd.zQ ho0) hb); have n2_ := Aside0.mk (Kd.zw (sqR HO484.out) (Kd.zQ ho0) hb); have n3_ := Aside0.mk (Kd.zD (Kd.zP (Kd.zP (Kd.zP ho0 (Kd.qt (sqR HO_462001.out))) (Kd.qt (sqR HO_471001.out))) (Kd.qt (sqR HO484.out))) (zh sqB)); have n4_ := Aside0.mk (zd (g := gb461) (o := .cells #[.int .i64 t456, .slice Ao14 t457.length co14] 24 (0, 0)) (sqK BK461.out) hb); have n5_ := Aside0.mk (zd (g := gb470) (o := .cells #[.int .i64 t465, .slice Ao21 t466.length co21] 24 (0, 0)) (sqK BK470.out) hb); have n6_ := Aside0.mk (zc sqB hb); clear HO_462001; clear HO_471001; clear HO484; clear BK461; clear BK470; clear HB; have HO_462001 := n0_; have HO_471001 := n1_; have HO484 := n2_; have HO488 := n3_; have BK461 := n4_; have BK470 := n5_; have HB := n6_; clear n0_ n1_ n2_ n3_ n4_ n5_ n6_; (try clear hb); (try clear hb2); (try clear hk); (try clear hi); (try clear ho0)) | ((with_reducible refine zm (N := 13) rfl ?_); refine zq ?hg (N := 13) ?hd (cs := #[.int .i64 0, .slice none 0 0]) (t := 24) ?hr ?_; (case hd => rfl); (case hg => rfl); (case hr => exact sqG); intro gb490 hg w68 hbox hb; have n0_ := Aside0.mk (Kd.zx (sqR HO_462001.out) hb); have n1_ := Aside0.mk (Kd.zx (sqR HO_471001.out) hb); have n2_ := Aside0.mk (Kd.zx (sqR HO484.out) hb); have n3_ := Aside0.mk (Kd.zx (sqR HO488.out) hb); have n4_ := Aside0.mk (zd (g := gb461) (o := .cells #[.int .i64 t456, .slice Ao14 t457.length co14] 24 (0, 0)) (sqK BK461.out) hb); have n5_ := Aside0.mk (zd (g := gb470) (o := .cells #[.int .i64 t465, .slice Ao21 t466.length co21] 24 (0, 0)) (sqK BK470.out) hb); have n6_ := Aside0.mk (zc sqB hb); have n7_ := Aside0.mk (hbox); have n8_ := Aside0.mk ((sqS hg : w.heap.size ≤ gb490)); have n9_ := Aside0.mk ((sqS hg : w.heap.size ≤ gb490)); have n10_ := Aside0.mk ((by rw [hg]; exact Nat.ne_of_lt (zU (g := gb461) (o := .cells #[.int .i64 t456, .slice Ao14 t457.length co14] 24 (0, 0)) (sqK BK461.out)) : gb461 ≠ gb490)); have n11_ := Aside0.mk ((by rw [hg]; exact Nat.ne_of_gt (zU (g := gb461) (o := .cells #[.int .i64 t456, .slice Ao14 t457.length co14] 24 (0, 0)) (sqK BK461.out)) : gb490 ≠ gb461)); have n12_ := Aside0.mk ((by rw [hg]; exact Nat.ne_of_lt (zU (g := gb470) (o := .cells #[.int .i64 t465, .slice Ao21 t466.length co21] 24 (0, 0)) (sqK BK470.out)) : gb470 ≠ gb490)); have n13_ := Aside0.mk ((by rw [hg]; exact Nat.ne_of_gt (zU (g := gb470) (o := .cells #[.int .i64 t465, .slice Ao21 t466.length co21] 24 (0, 0)) (sqK BK470.out)) : gb490 ≠ gb470)); clear HO_462001; clear HO_471001; clear HO484; clear HO488; clear BK461; clear BK470; clear HB; have HO_462001 := n0_; have HO_471001 := n1_; have HO484 := n2_; have HO488 := n3_; have BK461 := n4_; have BK470 := n5_; have HB := n6_; have BK490 := n7_; have GW490 := n8_; have GE490 := n9_; have NB461_490 := n10_; have NB490_461 := n11_; have NB470_490 := n12_; have NB490_470 := n13_; clear n0_ n1_ n2_ n3_ n4_ n5_ n6_ n7_ n8_ n9_ n10_ n11_ n12_ n13_; clear hb hbox hg; have hnb69 := NB490_461.out; have hnc69 := NB461_490.out; have hnb70 := NB490_470.out; have hnc70 := NB470_490.out; have hcz71_0 : w68.cell? ⟨gb490, 0, none⟩ = some (.int .i64 0) := (za BK490.out 0).trans rfl; have hcz71_1 : w68.cell? ⟨gb490, 1, none⟩ = some (.slice none 0 0) := (za BK490.out 1).trans rfl; have hfz71_0 := zb BK490.out 0; have hfz71_1 := zb BK490.out 1; obtain ⟨Ao72, co72, eo72⟩ := Kd.zK HO488.out; subst eo72))
           (try simp only [Act.put, List.setIfInBounds_toArray, List.set_cons_zero, List.set_cons_succ])
           go_cut [89] (fun v89 wc => ∃ (kq : Nat) (x89_58 : Bool), v89 = .bool x89_58 ∧ Aside0 (zf.j2 kq t479 x89_58 t465 t480 = some r) ∧ Aside0 (kq ≤ kj36) ∧ Aside0 (Kd.R (Kd.int .i64) 3 wc w.heap.size (fun k_ => some k_ ≠ ((.slice Ao21 t466.length co21) : Value).ownBlock ∧ some k_ ≠ ((.slice Ao72 t486.length co72) : Value).ownBlock) (.slice Ao14 t457.length co14) t457) ∧ Aside0 (Kd.R (Kd.int .i64) 3 wc w.heap.size (fun k_ => some k_ ≠ ((.slice Ao14 t457.length co14) : Value).ownBlock ∧ some k_ ≠ ((.slice Ao72 t486.length co72) : Value).ownBlock) (.slice Ao21 t466.length co21) t480) ∧ Aside0 (Kd.R (Kd.int .i64) 3 wc w.heap.size (fun k_ => some k_ ≠ ((.slice Ao14 t457.length co14) : Value).ownBlock ∧ some k_ ≠ ((.slice Ao21 t466.length co21) : Value).ownBlock) (.slice Ao72 t486.length co72) t486) ∧ Aside0 (wc.heap[gb461]? = some (.cells #[.int .i64 t456, (.slice Ao14 t457.length co14)] 24 (0, 0))) ∧ Aside0 (wc.heap[gb470]? = some (.cells #[.int .i64 t465, (.slice Ao21 t466.length co21)] 24 (0, 0))) ∧ Aside0 (wc.heap[gb490]? = some (.cells #[.int .i64 t485, (.slice Ao72 t486.length co72)] 24 (0, 0))) ∧ Aside0 (Below w.heap.size w wc))
           case first =>
            have H := HC59.out
            clear HC59
            replace H := Option.bind_eq_some_iff.mp H
            obtain ⟨t491, A730, H⟩ := H
            replace H : (if t491 = true then (zf.j2 kj36 t479 (t489 != t460) t465 t480) else (zf.j2 kj36 t479 true t465 t480)) = some r := H
            have A73 := Aside0.mk A730
            clear A730
            by_cases c74 : t491 = true
            ·subst c74
             have H1 : (zf.j2 kj36 t479 (t489 != t460) t465 t480) = some r := by rw [if_pos rfl] at H; exact H
             clear H
             have H := H1
             clear H1
             have H' := Aside0.mk H
             clear H
             have hnb75 := NB490_461.out
             have hnc75 := NB461_490.out
             have hnb76 := NB490_470.out
             have hnc76 := NB470_490.out
             have hcz77_0 : w68.cell? ⟨gb490, 0, none⟩ = some (.int .i64 0) := (za BK490.out 0).trans rfl
             have hcz77_1 : w68.cell? ⟨gb490, 1, none⟩ = some (.slice none 0 0) := (za BK490.out 1).trans rfl
             have hfz77_0 := zb BK490.out 0
             have hfz77_1 := zb BK490.out 1
             have hnb78 := NB461_470.out
             have hnc78 := NB470_461.out
             have hcz79_0 : w68.cell? ⟨gb461, 0, none⟩ = some (.int .i64 t456) := (za BK461.out 0).trans rfl
             have hcz79_1 : w68.cell? ⟨gb461, 1, none⟩ = some (.slice Ao14 t457.length co14) := (za BK461.out 1).trans rfl
             have hfz79_0 := zb BK461.out 0
             have hfz79_1 := zb BK461.out 1
             go_wp2_with (first | ((with_reducible refine ze (f := 7) rfl ?_); refine zv (some 83) rfl rfl Tryz.func7 (by kernel_rfl) rfl #[.agg #[.int .i64 t485, .slice Ao72 t486.length co72], .agg #[.int .i64 t456, .slice Ao14 t457.length co14]] rfl sqM ?_; (with_reducible refine (zY.calls kj36 t485 _ _ t486 t456 _ _ t457 true _ ?side1 ?side2 ?side3 ?side4 A73.out).mono ?_); (case side1 => refine (Kd.zg (e := 3) (base := w.heap.size) (ok := fun k_ => (((True ∧ some k_ ≠ (.slice Ao14 t457.length co14 : Value).ownBlock) ∧ some k_ ≠ (.slice Ao21 t466.length co21 : Value).ownBlock) ∧ some k_ ≠ (.slice Ao66 t482.length co66 : Value).ownBlock)) (n := t486.length) (c := co72) ?_).2.2; exact (by refine sqR ?_; exact (Kd.zn (Kd.zp (p := ⟨gb490, 1, none⟩) (Kd.zp (p := ⟨gb490, 0, none⟩) (Kd.zz HO488.out BK490.out (by decide)) (fun _ hk => hk.2) (.int .i64 t485)) (fun _ hk => hk.2) (.slice Ao72 t486.length co72)) (fun _ h_ => h_.1)))); (case side2 => exact (Kd.zg HO488.out).2.1); (case side3 => refine (Kd.zg (e := 3) (base := w.heap.size) (ok := fun k_ => ((some k_ ≠ (.slice Ao21 t466.length co21 : Value).ownBlock ∧ some k_ ≠ (.slice Ao66 t482.length co66 : Value).ownBlock) ∧ some k_ ≠ (.slice Ao72 t486.length co72 : Value).ownBlock)) (n := t457.length) (c := co14) ?_).2.2; exact (by refine sqR ?_; exact (Kd.zn (Kd.zp (p := ⟨gb490, 1, none⟩) (Kd.zp (p := ⟨gb490, 0, none⟩) (Kd.zz HO_462001.out BK490.out (by decide)) (fun _ hk => hk.2) (.int .i64 t485)) (fun _ hk => hk.2) (.slice Ao72 t486.length co72)) (fun _ h_ => h_.1)))); (case side4 => exact (Kd.zg HO_462001.out).2.1); rintro e w80 ⟨rfl, hb⟩; refine ⟨_, rfl, ?_⟩; have n0_ := Aside0.mk (Kd.zx (by refine sqR ?_; exact (Kd.zn (Kd.zp (p := ⟨gb490, 1, none⟩) (Kd.zp (p := ⟨gb490, 0, none⟩) (Kd.zz HO_462001.out BK490.out (by decide)) (fun _ hk => hk.2) (.int .i64 t485)) (fun _ hk => hk.2) (.slice Ao72 t486.length co72)) (fun _ h_ => h_.1))) hb); have n1_ := Aside0.mk (Kd.zx (by refine sqR ?_; exact (Kd.zn (Kd.zp (p := ⟨gb490, 1, none⟩) (Kd.zp (p := ⟨gb490, 0, none⟩) (Kd.zz HO_471001.out BK490.out (by decide)) (fun _ hk => hk.2) (.int .i64 t485)) (fun _ hk => hk.2) (.slice Ao72 t486.length co72)) (fun _ h_ => h_.1))) hb); have n2_ := Aside0.mk (Kd.zx (by refine sqR ?_; exact (Kd.zn (Kd.zp (p := ⟨gb490, 1, none⟩) (Kd.zp (p := ⟨gb490, 0, none⟩) (Kd.zz HO484.out BK490.out (by decide)) (fun _ hk => hk.2) (.int .i64 t485)) (fun _ hk => hk.2) (.slice Ao72 t486.length co72)) (fun _ h_ => h_.1))) hb); have n3_ := Aside0.mk (Kd.zx (by refine sqR ?_; exact (Kd.zn (Kd.zp (p := ⟨gb490, 1, none⟩) (Kd.zp (p := ⟨gb490, 0, none⟩) (Kd.zz HO488.out BK490.out (by decide)) (fun _ hk => hk.2) (.int .i64 t485)) (fun _ hk => hk.2) (.slice Ao72 t486.length co72)) (fun _ h_ => h_.1))) hb); have n4_ := Aside0.mk (zd (g := gb461) (o := .cells #[.int .i64 t456, .slice Ao14 t457.length co14] 24 (0, 0)) (by refine sqK ?_; refine z6 ?_ NB461_490.out _; refine sqK ?_; refine z6 ?_ NB461_490.out _; refine sqK ?_; exact BK461.out) hb); have n5_ := Aside0.mk (zd (g := gb470) (o := .cells #[.int .i64 t465, .slice Ao21 t466.length co21] 24 (0, 0)) (by refine sqK ?_; refine z6 ?_ NB470_490.out _; refine sqK ?_; refine z6 ?_ NB470_490.out _; refine sqK ?_; exact BK470.out) hb); have n6_ := Aside0.mk (zd (g := gb490) (o := .cells #[.int .i64 t485, .slice Ao72 t486.length co72] 24 (0, 0)) (by refine sqK ?_; refine zF (cs := #[.int .i64 t485, .slice none 0 0]) ?_ 1 _ rfl; refine sqK ?_; refine zF (cs := #[.int .i64 0, .slice none 0 0]) ?_ 0 _ rfl; refine sqK ?_; exact BK490.out) hb); have n7_ := Aside0.mk (zc sqB hb); clear HO_462001; clear HO_471001; clear HO484; clear HO488; clear BK461; clear BK470; clear BK490; clear HB; have HO_462001 := n0_; have HO_471001 := n1_; have HO484 := n2_; have HO488 := n3_; have BK461 := n4_; have BK470 := n5_; have BK490 := n6_; have HB := n7_; clear n0_ n1_ n2_ n3_ n4_ n5_ n6_ n7_; (try clear hb); (try clear hb2); (try clear hk); (try clear hi)))
             go_meet
             case rel => exact ⟨_, ((t489 != t460)), (sqD), H', ⟨by have := HJ7.out; have := HJ36.out; first | omega | exact Nat.le_refl _⟩, ⟨by refine sqR ?_; exact Kd.zn HO_462001.out (fun _ hk => by first | exact ⟨hk.1.1, hk.2⟩ | (refine ⟨?_, ?_⟩ <;> intro e_ <;> simp only [e_, ne_eq, not_true_eq_false, and_false, false_and] at hk))⟩, ⟨by refine sqR ?_; exact Kd.zn HO_471001.out (fun _ hk => by first | exact ⟨hk.1.1, hk.2⟩ | (refine ⟨?_, ?_⟩ <;> intro e_ <;> simp only [e_, ne_eq, not_true_eq_false, and_false, false_and] at hk))⟩, ⟨by refine sqR ?_; exact Kd.zn HO488.out (fun _ hk => by first | exact ⟨hk.1.1.2, hk.1.2⟩ | (refine ⟨?_, ?_⟩ <;> intro e_ <;> simp only [e_, ne_eq, not_true_eq_false, and_false, false_and] at hk))⟩, ⟨sqK BK461.out⟩, ⟨sqK BK470.out⟩, ⟨sqK BK490.out⟩, ⟨sqB⟩⟩
            ·replace c74 := Bool.eq_false_iff.mpr c74
             subst c74
             have H1 : (zf.j2 kj36 t479 true t465 t480) = some r := by rw [if_neg (show ¬ (false = true) by decide)] at H; exact H
             clear H
             have H := H1
             clear H1
             have H' := Aside0.mk H
             clear H
             have hnb81 := NB490_461.out
             have hnc81 := NB461_490.out
             have hnb82 := NB490_470.out
             have hnc82 := NB470_490.out
             have hcz83_0 : w68.cell? ⟨gb490, 0, none⟩ = some (.int .i64 0) := (za BK490.out 0).trans rfl
             have hcz83_1 : w68.cell? ⟨gb490, 1, none⟩ = some (.slice none 0 0) := (za BK490.out 1).trans rfl
             have hfz83_0 := zb BK490.out 0
             have hfz83_1 := zb BK490.out 1
             have hnb84 := NB461_470.out
             have hnc84 := NB470_461.out
             have hcz85_0 : w68.cell? ⟨gb461, 0, none⟩ = some (.int .i64 t456) := (za BK461.out 0).trans rfl
             have hcz85_1 : w68.cell? ⟨gb461, 1, none⟩ = some (.slice Ao14 t457.length co14) := (za BK461.out 1).trans rfl
             have hfz85_0 := zb BK461.out 0
             have hfz85_1 := zb BK461.out 1
             go_wp2_with (first | ((with_reducible refine ze (f := 7) rfl ?_); refine zv (some 83) rfl rfl Tryz.func7 (by kernel_rfl) rfl #[.agg #[.int .i64 t485, .slice Ao72 t486.length co72], .agg #[.int .i64 t456, .slice Ao14 t457.length co14]] rfl sqM ?_; (with_reducible refine (zY.calls kj36 t485 _ _ t486 t456 _ _ t457 false _ ?side1 ?side2 ?side3 ?side4 A73.out).mono ?_); (case side1 => refine (Kd.zg (e := 3) (base := w.heap.size) (ok := fun k_ => (((True ∧ some k_ ≠ (.slice Ao14 t457.length co14 : Value).ownBlock) ∧ some k_ ≠ (.slice Ao21 t466.length co21 : Value).ownBlock) ∧ some k_ ≠ (.slice Ao66 t482.length co66 : Value).ownBlock)) (n := t486.length) (c := co72) ?_).2.2; exact (by refine sqR ?_; exact (Kd.zn (Kd.zp (p := ⟨gb490, 1, none⟩) (Kd.zp (p := ⟨gb490, 0, none⟩) (Kd.zz HO488.out BK490.out (by decide)) (fun _ hk => hk.2) (.int .i64 t485)) (fun _ hk => hk.2) (.slice Ao72 t486.length co72)) (fun _ h_ => h_.1)))); (case side2 => exact (Kd.zg HO488.out).2.1); (case side3 => refine (Kd.zg (e := 3) (base := w.heap.size) (ok := fun k_ => ((some k_ ≠ (.slice Ao21 t466.length co21 : Value).ownBlock ∧ some k_ ≠ (.slice Ao66 t482.length co66 : Value).ownBlock) ∧ some k_ ≠ (.slice Ao72 t486.length co72 : Value).ownBlock)) (n := t457.length) (c := co14) ?_).2.2; exact (by refine sqR ?_; exact (Kd.zn (Kd.zp (p := ⟨gb490, 1, none⟩) (Kd.zp (p := ⟨gb490, 0, none⟩) (Kd.zz HO_462001.out BK490.out (by decide)) (fun _ hk => hk.2) (.int .i64 t485)) (fun _ hk => hk.2) (.slice Ao72 t486.length co72)) (fun _ h_ => h_.1)))); (case side4 => exact (Kd.zg HO_462001.out).2.1); rintro e w86 ⟨rfl, hb⟩; refine ⟨_, rfl, ?_⟩; have n0_ := Aside0.mk (Kd.zx (by refine sqR ?_; exact (Kd.zn (Kd.zp (p := ⟨gb490, 1, none⟩) (Kd.zp (p := ⟨gb490, 0, none⟩) (Kd.zz HO_462001.out BK490.out (by decide)) (fun _ hk => hk.2) (.int .i64 t485)) (fun _ hk => hk.2) (.slice Ao72 t486.length co72)) (fun _ h_ => h_.1))) hb); have n1_ := Aside0.mk (Kd.zx (by refine sqR ?_; exact (Kd.zn (Kd.zp (p := ⟨gb490, 1, none⟩) (Kd.zp (p := ⟨gb490, 0, none⟩) (Kd.zz HO_471001.out BK490.out (by decide)) (fun _ hk => hk.2) (.int .i64 t485)) (fun _ hk => hk.2) (.slice Ao72 t486.length co72)) (fun _ h_ => h_.1))) hb); have n2_ := Aside0.mk (Kd.zx (by refine sqR ?_; exact (Kd.zn (Kd.zp (p := ⟨gb490, 1, none⟩) (Kd.zp (p := ⟨gb490, 0, none⟩) (Kd.zz HO484.out BK490.out (by decide)) (fun _ hk => hk.2) (.int .i64 t485)) (fun _ hk => hk.2) (.slice Ao72 t486.length co72)) (fun _ h_ => h_.1))) hb); have n3_ := Aside0.mk (Kd.zx (by refine sqR ?_; exact (Kd.zn (Kd.zp (p := ⟨gb490, 1, none⟩) (Kd.zp (p := ⟨gb490, 0, none⟩) (Kd.zz HO488.out BK490.out (by decide)) (fun _ hk => hk.2) (.int .i64 t485)) (fun _ hk => hk.2) (.slice Ao72 t486.length co72)) (fun _ h_ => h_.1))) hb); have n4_ := Aside0.mk (zd (g := gb461) (o := .cells #[.int .i64 t456, .slice Ao14 t457.length co14] 24 (0, 0)) (by refine sqK ?_; refine z6 ?_ NB461_490.out _; refine sqK ?_; refine z6 ?_ NB461_490.out _; refine sqK ?_; exact BK461.out) hb); have n5_ := Aside0.mk (zd (g := gb470) (o := .cells #[.int .i64 t465, .slice Ao21 t466.length co21] 24 (0, 0)) (by refine sqK ?_; refine z6 ?_ NB470_490.out _; refine sqK ?_; refine z6 ?_ NB470_490.out _; refine sqK ?_; exact BK470.out) hb); have n6_ := Aside0.mk (zd (g := gb490) (o := .cells #[.int .i64 t485, .slice Ao72 t486.length co72] 24 (0, 0)) (by refine sqK ?_; refine zF (cs := #[.int .i64 t485, .slice none 0 0]) ?_ 1 _ rfl; refine sqK ?_; refine zF (cs := #[.int .i64 0, .slice none 0 0]) ?_ 0 _ rfl; refine sqK ?_; exact BK490.out) hb); have n7_ := Aside0.mk (zc sqB hb); clear HO_462001; clear HO_471001; clear HO484; clear HO488; clear BK461; clear BK470; clear BK490; clear HB; have HO_462001 := n0_; have HO_471001 := n1_; have HO484 := n2_; have HO488 := n3_; have BK461 := n4_; have BK470 := n5_; have BK490 := n6_; have HB := n7_; clear n0_ n1_ n2_ n3_ n4_ n5_ n6_ n7_; (try clear hb); (try clear hb2); (try clear hk); (try clear hi)))
             go_meet
             case rel => exact ⟨_, (true), (sqD), H', ⟨by have := HJ7.out; have := HJ36.out; first | omega | exact Nat.le_refl _⟩, ⟨by refine sqR ?_; exact Kd.zn HO_462001.out (fun _ hk => by first | exact ⟨hk.1.1, hk.2⟩ | (refine ⟨?_, ?_⟩ <;> intro e_ <;> simp only [e_, ne_eq, not_true_eq_false, and_false, false_and] at hk))⟩, ⟨by refine sqR ?_; exact Kd.zn HO_471001.out (fun _ hk => by first | exact ⟨hk.1.1, hk.2⟩ | (refine ⟨?_, ?_⟩ <;> intro e_ <;> simp only [e_, ne_eq, not_true_eq_false, and_false, false_and] at hk))⟩, ⟨by refine sqR ?_; exact Kd.zn HO488.out (fun _ hk => by first | exact ⟨hk.1.1.2, hk.1.2⟩ | (refine ⟨?_, ?_⟩ <;> intro e_ <;> simp only [e_, ne_eq, not_true_eq_false, and_false, false_and] at hk))⟩, ⟨sqK BK461.out⟩, ⟨sqK BK470.out⟩, ⟨sqK BK490.out⟩, ⟨sqB⟩⟩
           case rest =>
            clear HC59
            try clear c1
            try clear c2
            try clear p2
            try clear c3
            try clear c3b0
            try clear c3b1
            try clear c4
            try clear c5
            try clear c6
            try clear c7
            try clear c8
            try clear c9
            try clear c10
            try clear c11
            try clear c19
            try clear c23
            try clear c24
            try clear c28
            try clear c32
            try clear c35
            try clear c41
            try clear c41b0
            try clear c43
            try clear c44
            try clear c48
            try clear c52
            try clear c55
            try clear c55b0
            try clear c56
            try clear c56b0
            try clear c56b1
            try clear c60
            try clear c69
            try clear c70
            try clear c74
            try clear c75
            try clear c76
            try clear c78
            try clear c81
            try clear c82
            try clear c84
            try clear hcz13_0
            try clear hcz13_1
            try clear hcz20_0
            try clear hcz20_1
            try clear hcz25_0
            try clear hcz25_1
            try clear hcz26_0
            try clear hcz26_1
            try clear hcz29_0
            try clear hcz29_1
            try clear hcz30_0
            try clear hcz30_1
            try clear hcz45_0
            try clear hcz45_1
            try clear hcz46_0
            try clear hcz46_1
            try clear hcz49_0
            try clear hcz49_1
            try clear hcz50_0
            try clear hcz50_1
            try clear hcz61_0
            try clear hcz61_1
            try clear hcz63_0
            try clear hcz63_1
            try clear hcz71_0
            try clear hcz71_1
            try clear hcz77_0
            try clear hcz77_1
            try clear hcz79_0
            try clear hcz79_1
            try clear hcz83_0
            try clear hcz83_1
            try clear hcz85_0
            try clear hcz85_1
            try clear hfz13_0
            try clear hfz13_1
            try clear hfz20_0
            try clear hfz20_1
            try clear hfz25_0
            try clear hfz25_1
            try clear hfz26_0
            try clear hfz26_1
            try clear hfz29_0
            try clear hfz29_1
            try clear hfz30_0
            try clear hfz30_1
            try clear hfz45_0
            try clear hfz45_1
            try clear hfz46_0
            try clear hfz46_1
            try clear hfz49_0
            try clear hfz49_1
            try clear hfz50_0
            try clear hfz50_1
            try clear hfz61_0
            try clear hfz61_1
            try clear hfz63_0
            try clear hfz63_1
            try clear hfz71_0
            try clear hfz71_1
            try clear hfz77_0
            try clear hfz77_1
            try clear hfz79_0
            try clear hfz79_1
            try clear hfz83_0
            try clear hfz83_1
            try clear hfz85_0
            try clear hfz85_1
            try clear p2
            obtain ⟨kq, x89_58, rfl, HA, HJ58, HO_462001, HO_471001, HO_491001, BK461, BK470, BK490, HB⟩ := hcut
            have hl471001_58 := (Kd.zg HO_471001.out).1
            rw [hl471001_58] at HO_471001
            (try simp only [hl471001_58])
            (try simp only [hl471001_58] at BK461)
            (try simp only [hl471001_58] at BK470)
            (try simp only [hl471001_58] at BK490)
            (try simp only [hl471001_58] at HO_462001)
            (try simp only [hl471001_58] at HO_491001)
            cases kq with
            | zero => exact absurd HA.out (by simp [zf.j2])
            | succ kj58 =>
             have H := HA.out
             clear HA
             simp only [zf.j2] at H
             by_cases c87 : x89_58 = true
             ·subst c87
              have H1 : (none) = some r := by rw [if_pos rfl] at H; exact H
              clear H
              have H := H1
              clear H1
              exact absurd H (by simp)
             ·replace c87 := Bool.eq_false_iff.mpr c87
              subst c87
              have H1 : ((qU.f kj58 t465 t480 1).bind fun t492 => (if t492 < 0 then (none) else (if t492 = t479 then (some true) else (none)))) = some r := by rw [if_neg (show ¬ (false = true) by decide)] at H; exact H
              clear H
              have H := H1
              clear H1
              replace H := Option.bind_eq_some_iff.mp H
              obtain ⟨t492, A880, H⟩ := H
              replace H : (if t492 < 0 then (none) else (if t492 = t479 then (some true) else (none))) = some r := H
              have A88 := Aside0.mk A880
              clear A880
              by_cases c89 : t492 < 0
              ·rw [if_pos c89] at H
               exact absurd H (by simp)
              ·rw [if_neg c89] at H
               have c89b0 : decide (t492 < 0) = false := decide_eq_false c89
               clear c89
               by_cases c90 : t492 = t479
               ·rw [if_pos c90] at H
                have c90b0 : (t492 == t479) = true := beq_iff_eq.mpr c90
                have c90b1 : (t492 != t479) = false := bne_eq_false_iff_eq.mpr c90
                clear c90
                obtain rfl := Option.some.inj H
                have hnb91 := NB470_461.out
                have hnc91 := NB461_470.out
                have hnb92 := NB470_490.out
                have hnc92 := NB490_470.out
                have hcz93_0 : wc.cell? ⟨gb470, 0, none⟩ = some (.int .i64 t465) := (za BK470.out 0).trans rfl
                have hcz93_1 : wc.cell? ⟨gb470, 1, none⟩ = some (.slice Ao21 t480.length co21) := (za BK470.out 1).trans rfl
                have hfz93_0 := zb BK470.out 0
                have hfz93_1 := zb BK470.out 1
                go_wp2_with (first | ((with_reducible refine ze (f := 11) rfl ?_); refine zv (some 92) rfl rfl Tryz.func11 (by kernel_rfl) rfl #[.agg #[.int .i64 t465, .slice Ao21 t480.length co21], .int .i64 1] rfl sqM ?_; (with_reducible refine (qU.calls kj58 t465 _ _ t480 1 t492 _ ?side1 ?side2 A88.out).mono ?_); (case side1 => exact sqC (Kd.zg HO_471001.out).2.2); (case side2 => exact (Kd.zg HO_471001.out).2.1); rintro e w94 ⟨rfl, hb⟩; refine ⟨_, rfl, ?_⟩; have n0_ := Aside0.mk (Kd.zx (sqR HO_462001.out) hb); have n1_ := Aside0.mk (Kd.zx (sqR HO_471001.out) hb); have n2_ := Aside0.mk (Kd.zx (sqR HO_491001.out) hb); have n3_ := Aside0.mk (zd (g := gb461) (o := .cells #[.int .i64 t456, .slice Ao14 t457.length co14] 24 (0, 0)) (sqK BK461.out) hb); have n4_ := Aside0.mk (zd (g := gb470) (o := .cells #[.int .i64 t465, .slice Ao21 t480.length co21] 24 (0, 0)) (sqK BK470.out) hb); have n5_ := Aside0.mk (zd (g := gb490) (o := .cells #[.int .i64 t485, .slice Ao72 t486.length co72] 24 (0, 0)) (sqK BK490.out) hb); have n6_ := Aside0.mk (zc sqB hb); clear HO_462001; clear HO_471001; clear HO_491001; clear BK461; clear BK470; clear BK490; clear HB; have HO_462001 := n0_; have HO_471001 := n1_; have HO_491001 := n2_; have BK461 := n3_; have BK470 := n4_; have BK490 := n5_; have HB := n6_; clear n0_ n1_ n2_ n3_ n4_ n5_ n6_; (try clear hb); (try clear hb2); (try clear hk); (try clear hi)))
                go_ret
                exact ⟨sqE, sqB⟩
               ·rw [if_neg c90] at H
                exact absurd H (by simp)
          ·rw [if_neg c56] at H
           exact absurd H (by simp)
     ·replace c35 := Bool.eq_false_iff.mpr c35
      subst c35
      have H1 : (none) = some r := by rw [if_neg (show ¬ (false = true) by decide)] at H; exact H
      clear H
      have H := H1
      clear H1
      exact absurd H (by simp)

end Go.Proofs.YteggmbhcnhbamaaGreat.F
end
