/- Several texts of this session in one: Fx7, Base, Bits, Loops, LLists, LTabs, Fx4. Conditions: as each theorem says. -/
import Derived.Test.YtopkfhnnapncgaaZReduceMatrix0
import Derived.Test.YtopkfhnnapncgaaZReduceMatrix1
import Derived.Test.YtopkfhnnapncgaaZReduceMatrix2
import Derived.Test.YtopkfhnnapncgaaZReduceMatrix3
import Derived.Laws.BitsLemmas
set_option maxHeartbeats 8000000
set_option maxRecDepth 100000
section
namespace Go.Proofs.Ytopkfhnnapncgaa.F
open Go.RowKit Go.Proofs.YtopkfhnnapncgaaW.PrintWords Go.Proofs.YtopkfhnnapncgaaW.PrintLast Go.Proofs.YtopkfhnnapncgaaW.PrintMore
attribute [local go_sem] jw jv jQ jN ji jg jx jy   -- for this text's walks alone
set_option linter.unusedVariables false
set_option linter.unusedSimpArgs false

def zL.f (k : Nat) (a0_0 : Int) (a0_1 : Int) (a0_2 : Int) (l0_3 : List Int) : Option (Int × Int × Int × List Int) := (zn.f k a0_0 a0_1 a0_2 l0_3).bind fun t187 => (if t187 = true then ((zc.f k a0_0 a0_1 a0_2 l0_3).bind fun bt188 => (some (bt188.1, bt188.2.1, bt188.2.2.1, bt188.2.2.2.1))) else (some (0, 0, 0, ([] : List Int))))
theorem zL.calls (k : Nat) (a0_0 : Int) (a0_1 : Int) (a0_2 : Int) (A0_3 : Option Addr) (c0_3 : Nat) (l0_3 : List Int) (r1 : Int) (r2 : Int) (r3 : Int) (r4 : List Int) (w : World) (hr0_3 : Kd.C (Kd.int .i64) w A0_3 l0_3.length l0_3) (hc0_3 : l0_3.length ≤ c0_3) (h : zL.f k a0_0 a0_1 a0_2 l0_3 = some (r1, r2, r3, r4)) :
  Calls Try.prog 33 #[.agg #[.int .i64 a0_0, .int .i64 a0_1, .int .i64 a0_2, .slice A0_3 l0_3.length c0_3]] w fun e w' => ∃ v3_ : Value, e = .returned (.agg #[.int .i64 r1, .int .i64 r2, .int .i64 r3, v3_]) ∧ Kd.R (Kd.int .i64) 3 w' w.heap.size (fun _ => True) v3_ r4 ∧ Below w.heap.size w w' := by
 have hu27 := Try.underlying27
 have HR0_3 := Aside0.mk hr0_3
 have HC0_3 := Aside0.mk hc0_3
 clear hr0_3 hc0_3
 have HB := Aside0.mk (Below.refl w.heap.size w)
 have H : ((zn.f k a0_0 a0_1 a0_2 l0_3).bind fun t187 => (if t187 = true then ((zc.f k a0_0 a0_1 a0_2 l0_3).bind fun bt188 => (some (bt188.1, bt188.2.1, bt188.2.2.1, bt188.2.2.2.1))) else (some (0, 0, 0, ([] : List Int))))) = some (r1, r2, r3, r4) := h
 clear h
 replace H := Option.bind_eq_some_iff.mp H
 obtain ⟨t187, A20, H⟩ := H
 replace H : (if t187 = true then ((zc.f k a0_0 a0_1 a0_2 l0_3).bind fun bt188 => (some (bt188.1, bt188.2.1, bt188.2.2.1, bt188.2.2.2.1))) else (some (0, 0, 0, ([] : List Int)))) = some (r1, r2, r3, r4) := H
 have A2 := Aside0.mk A20
 clear A20
 by_cases c3 : t187 = true
 ·subst c3
  have H1 : ((zc.f k a0_0 a0_1 a0_2 l0_3).bind fun bt188 => (some (bt188.1, bt188.2.1, bt188.2.2.1, bt188.2.2.2.1))) = some (r1, r2, r3, r4) := by rw [if_pos rfl] at H; exact H
  clear H
  have H := H1
  clear H1
  replace H := Option.bind_eq_some_iff.mp H
  obtain ⟨⟨t188, t189, t190, t191, t194⟩, A40, H⟩ := H
  replace H : (some (t188, t189, t190, t191)) = some (r1, r2, r3, r4) := H
  have A4 := Aside0.mk A40
  clear A40
  simp only [Option.some.injEq, Prod.mk.injEq] at H
  obtain ⟨rfl, rfl, rfl, rfl⟩ := H
  go_enter Try.func33, Try.ntmps33
  go_wp2_with (first | ((with_reducible refine zA (N := 1) rfl ?_); refine zz ?hg (N := 1) ?hd (cs := #[.int .i64 a0_0, .int .i64 a0_1, .int .i64 a0_2, .slice A0_3 l0_3.length c0_3]) (t := 27) ?hr ?_; (case hd => rfl); (case hg => rfl); (case hr => exact sqG); intro gb185 hg w5 hbox hb; have n0_ := Aside0.mk (zj sqB hb); have n1_ := Aside0.mk (hbox); have n2_ := Aside0.mk ((sqS hg : w.heap.size ≤ gb185)); have n3_ := Aside0.mk ((sqS hg : w.heap.size ≤ gb185)); clear HB; have HB := n0_; have BK185 := n1_; have GW185 := n2_; have GE185 := n3_; clear n0_ n1_ n2_ n3_; clear hb hbox hg) | ((with_reducible refine zA (N := 2) rfl ?_); refine zz ?hg (N := 2) ?hd (cs := #[.int .i64 0, .int .i64 0, .int .i64 0, .slice none 0 0]) (t := 27) ?hr ?_; (case hd => rfl); (case hg => rfl); (case hr => exact sqG); intro gb186 hg w6 hbox hb; have n0_ := Aside0.mk (zh (g := gb185) (o := .cells #[.int .i64 a0_0, .int .i64 a0_1, .int .i64 a0_2, .slice A0_3 l0_3.length c0_3] 27 (0, 0)) (sqK BK185.out) hb); have n1_ := Aside0.mk (zj sqB hb); have n2_ := Aside0.mk (hbox); have n3_ := Aside0.mk ((sqS hg : w.heap.size ≤ gb186)); have n4_ := Aside0.mk ((sqS hg : w.heap.size ≤ gb186)); have n5_ := Aside0.mk ((by rw [hg]; exact Nat.ne_of_lt (zI (g := gb185) (o := .cells #[.int .i64 a0_0, .int .i64 a0_1, .int .i64 a0_2, .slice A0_3 l0_3.length c0_3] 27 (0, 0)) (sqK BK185.out)) : gb185 ≠ gb186)); have n6_ := Aside0.mk ((by rw [hg]; exact Nat.ne_of_gt (zI (g := gb185) (o := .cells #[.int .i64 a0_0, .int .i64 a0_1, .int .i64 a0_2, .slice A0_3 l0_3.length c0_3] 27 (0, 0)) (sqK BK185.out)) : gb186 ≠ gb185)); clear BK185; clear HB; have BK185 := n0_; have HB := n1_; have BK186 := n2_; have GW186 := n3_; have GE186 := n4_; have NB185_186 := n5_; have NB186_185 := n6_; clear n0_ n1_ n2_ n3_ n4_ n5_ n6_; clear hb hbox hg; have hnb7 := NB185_186.out; have hnc7 := NB186_185.out; have hcz8_0 : w6.cell? ⟨gb185, 0, none⟩ = some (.int .i64 a0_0) := (zb BK185.out 0).trans rfl; have hcz8_1 : w6.cell? ⟨gb185, 1, none⟩ = some (.int .i64 a0_1) := (zb BK185.out 1).trans rfl; have hcz8_2 : w6.cell? ⟨gb185, 2, none⟩ = some (.int .i64 a0_2) := (zb BK185.out 2).trans rfl; have hcz8_3 : w6.cell? ⟨gb185, 3, none⟩ = some (.slice A0_3 l0_3.length c0_3) := (zb BK185.out 3).trans rfl; have hfz8_0 := za BK185.out 0; have hfz8_1 := za BK185.out 1; have hfz8_2 := za BK185.out 2; have hfz8_3 := za BK185.out 3) | ((with_reducible refine zo (f := 39) rfl ?_); refine zT (some 6) rfl rfl Try.func39 (by kernel_rfl) rfl #[.agg #[.int .i64 a0_0, .int .i64 a0_1, .int .i64 a0_2, .slice A0_3 l0_3.length c0_3]] rfl sqM ?_; (with_reducible refine (zn.calls k a0_0 a0_1 a0_2 _ _ l0_3 true _ ?side1 ?side2 A2.out).mono ?_); (case side1 => exact sqC (Kd.qc HR0_3.out HB.out)); (case side2 => exact HC0_3.out); rintro e w9 ⟨rfl, hb⟩; refine ⟨_, rfl, ?_⟩; have n0_ := Aside0.mk (zh (g := gb185) (o := .cells #[.int .i64 a0_0, .int .i64 a0_1, .int .i64 a0_2, .slice A0_3 l0_3.length c0_3] 27 (0, 0)) (sqK BK185.out) hb); have n1_ := Aside0.mk (zh (g := gb186) (o := .cells #[.int .i64 0, .int .i64 0, .int .i64 0, .slice none 0 0] 27 (0, 0)) (sqK BK186.out) hb); have n2_ := Aside0.mk (zj sqB hb); clear BK185; clear BK186; clear HB; have BK185 := n0_; have BK186 := n1_; have HB := n2_; clear n0_ n1_ n2_; (try clear hb); (try clear hb2); (try clear hk); (try clear hi); have hcz10_0 : w9.cell? ⟨gb185, 0, none⟩ = some (.int .i64 a0_0) := (zb BK185.out 0).trans rfl; have hcz10_1 : w9.cell? ⟨gb185, 1, none⟩ = some (.int .i64 a0_1) := (zb BK185.out 1).trans rfl; have hcz10_2 : w9.cell? ⟨gb185, 2, none⟩ = some (.int .i64 a0_2) := (zb BK185.out 2).trans rfl; have hcz10_3 : w9.cell? ⟨gb185, 3, none⟩ = some (.slice A0_3 l0_3.length c0_3) := (zb BK185.out 3).trans rfl; have hfz10_0 := za BK185.out 0; have hfz10_1 := za BK185.out 1; have hfz10_2 := za BK185.out 2; have hfz10_3 := za BK185.out 3) | ((with_reducible refine zo (f := 58) rfl ?_); refine zT (some 11) rfl rfl Try.func58 (by kernel_rfl) rfl #[.agg #[.int .i64 a0_0, .int .i64 a0_1, .int .i64 a0_2, .slice A0_3 l0_3.length c0_3]] rfl sqM ?_; (with_reducible refine (zc.calls k a0_0 a0_1 a0_2 _ _ l0_3 t188 t189 t190 t191 t194 _ ?side1 ?side2 A4.out).mono ?_); (case side1 => exact sqC (Kd.qc HR0_3.out HB.out)); (case side2 => exact HC0_3.out); rintro e w11 ⟨v192, v195, rfl, ho0, ho1, hb⟩; refine ⟨_, rfl, ?_⟩; have n0_ := Aside0.mk (Kd.qx ho0 (zO sqB)); have n1_ := Aside0.mk (Kd.qx ho1 (zO sqB)); have n2_ := Aside0.mk (zh (g := gb185) (o := .cells #[.int .i64 a0_0, .int .i64 a0_1, .int .i64 a0_2, .slice A0_3 l0_3.length c0_3] 27 (0, 0)) (sqK BK185.out) hb); have n3_ := Aside0.mk (zh (g := gb186) (o := .cells #[.int .i64 0, .int .i64 0, .int .i64 0, .slice none 0 0] 27 (0, 0)) (sqK BK186.out) hb); have n4_ := Aside0.mk (zj sqB hb); clear BK185; clear BK186; clear HB; have HO193 := n0_; have HO196 := n1_; have BK185 := n2_; have BK186 := n3_; have HB := n4_; clear n0_ n1_ n2_ n3_ n4_; (try clear hb); (try clear hb2); (try clear hk); (try clear hi); (try clear ho0); (try clear ho1)) | ((with_reducible refine zA (N := 3) rfl ?_); refine zz ?hg (N := 3) ?hd (cs := #[.int .i64 0, .int .i64 0, .int .i64 0, .slice none 0 0]) (t := 27) ?hr ?_; (case hd => rfl); (case hg => rfl); (case hr => exact sqG); intro gb197 hg w12 hbox hb; have n0_ := Aside0.mk (Kd.zJ (sqR HO193.out) hb); have n1_ := Aside0.mk (Kd.zJ (sqR HO196.out) hb); have n2_ := Aside0.mk (zh (g := gb185) (o := .cells #[.int .i64 a0_0, .int .i64 a0_1, .int .i64 a0_2, .slice A0_3 l0_3.length c0_3] 27 (0, 0)) (sqK BK185.out) hb); have n3_ := Aside0.mk (zh (g := gb186) (o := .cells #[.int .i64 0, .int .i64 0, .int .i64 0, .slice none 0 0] 27 (0, 0)) (sqK BK186.out) hb); have n4_ := Aside0.mk (zj sqB hb); have n5_ := Aside0.mk (hbox); have n6_ := Aside0.mk ((sqS hg : w.heap.size ≤ gb197)); have n7_ := Aside0.mk ((sqS hg : w.heap.size ≤ gb197)); have n8_ := Aside0.mk ((by rw [hg]; exact Nat.ne_of_lt (zI (g := gb185) (o := .cells #[.int .i64 a0_0, .int .i64 a0_1, .int .i64 a0_2, .slice A0_3 l0_3.length c0_3] 27 (0, 0)) (sqK BK185.out)) : gb185 ≠ gb197)); have n9_ := Aside0.mk ((by rw [hg]; exact Nat.ne_of_gt (zI (g := gb185) (o := .cells #[.int .i64 a0_0, .int .i64 a0_1, .int .i64 a0_2, .slice A0_3 l0_3.length c0_3] 27 (0, 0)) (sqK BK185.out)) : gb197 ≠ gb185)); have n10_ := Aside0.mk ((by rw [hg]; exact Nat.ne_of_lt (zI (g := gb186) (o := .cells #[.int .i64 0, .int .i64 0, .int .i64 0, .slice none 0 0] 27 (0, 0)) (sqK BK186.out)) : gb186 ≠ gb197)); have n11_ := Aside0.mk ((by rw [hg]; exact Nat.ne_of_gt (zI (g := gb186) (o := .cells #[.int .i64 0, .int .i64 0, .int .i64 0, .slice none 0 0] 27 (0, 0)) (sqK BK186.out)) : gb197 ≠ gb186)); clear HO193; clear HO196; clear BK185; clear BK186; clear HB; have HO193 := n0_; have HO196 := n1_; have BK185 := n2_; have BK186 := n3_; have HB := n4_; have BK197 := n5_; have GW197 := n6_; have GE197 := n7_; have NB185_197 := n8_; have NB197_185 := n9_; have NB186_197 := n10_; have NB197_186 := n11_; clear n0_ n1_ n2_ n3_ n4_ n5_ n6_ n7_ n8_ n9_ n10_ n11_; clear hb hbox hg; have hnb13 := NB197_185.out; have hnc13 := NB185_197.out; have hnb14 := NB197_186.out; have hnc14 := NB186_197.out; have hcz15_0 : w12.cell? ⟨gb197, 0, none⟩ = some (.int .i64 0) := (zb BK197.out 0).trans rfl; have hcz15_1 : w12.cell? ⟨gb197, 1, none⟩ = some (.int .i64 0) := (zb BK197.out 1).trans rfl; have hcz15_2 : w12.cell? ⟨gb197, 2, none⟩ = some (.int .i64 0) := (zb BK197.out 2).trans rfl; have hcz15_3 : w12.cell? ⟨gb197, 3, none⟩ = some (.slice none 0 0) := (zb BK197.out 3).trans rfl; have hfz15_0 := za BK197.out 0; have hfz15_1 := za BK197.out 1; have hfz15_2 := za BK197.out 2; have hfz15_3 := za BK197.out 3; obtain ⟨Ao16, co16, eo16⟩ := Kd.qb HO193.out; subst eo16; have hcz17_0 : w12.cell? ⟨gb186, 0, none⟩ = some (.int .i64 0) := (zb BK186.out 0).trans rfl; have hcz17_1 : w12.cell? ⟨gb186, 1, none⟩ = some (.int .i64 0) := (zb BK186.out 1).trans rfl; have hcz17_2 : w12.cell? ⟨gb186, 2, none⟩ = some (.int .i64 0) := (zb BK186.out 2).trans rfl; have hcz17_3 : w12.cell? ⟨gb186, 3, none⟩ = some (.slice none 0 0) := (zb BK186.out 3).trans rfl; have hfz17_0 := za BK186.out 0; have hfz17_1 := za BK186.out 1; have hfz17_2 := za BK186.out 2; have hfz17_3 := za BK186.out 3))
  refine bodyPost_ret (results_cell_row rfl _ _ gb186 27 #[.int .i64 t188, .int .i64 t189, .int .i64 t190, .slice Ao16 t191.length co16] (0, 0) _ rfl (by refine sqK ?_; refine zD (cs := #[.int .i64 t188, .int .i64 t189, .int .i64 t190, .slice none 0 0]) ?_ 3 _ rfl; refine sqK ?_; refine zD (cs := #[.int .i64 t188, .int .i64 t189, .int .i64 0, .slice none 0 0]) ?_ 2 _ rfl; refine sqK ?_; refine zD (cs := #[.int .i64 t188, .int .i64 0, .int .i64 0, .slice none 0 0]) ?_ 1 _ rfl; refine sqK ?_; refine zD (cs := #[.int .i64 0, .int .i64 0, .int .i64 0, .slice none 0 0]) ?_ 0 _ rfl; refine sqK ?_; refine zw ?_ NB186_197.out _; refine sqK ?_; refine zw ?_ NB186_197.out _; refine sqK ?_; refine zw ?_ NB186_197.out _; refine sqK ?_; refine zw ?_ NB186_197.out _; refine sqK ?_; exact BK186.out) Try.underlying27 rfl (by kernel_rfl)) rfl ?_
  exact ⟨_, sqE, by refine sqR ?_; exact Kd.zE (Kd.zv (p := ⟨gb186, 3, none⟩) (Kd.zv (p := ⟨gb186, 2, none⟩) (Kd.zv (p := ⟨gb186, 1, none⟩) (Kd.zv (p := ⟨gb186, 0, none⟩) (Kd.zv (p := ⟨gb197, 3, none⟩) (Kd.zv (p := ⟨gb197, 2, none⟩) (Kd.zv (p := ⟨gb197, 1, none⟩) (Kd.zv (p := ⟨gb197, 0, none⟩) (Kd.zQ (Kd.zQ HO193.out BK197.out (by decide)) BK186.out (by decide)) (fun _ hk => hk.1.2) (.int .i64 t188)) (fun _ hk => hk.1.2) (.int .i64 t189)) (fun _ hk => hk.1.2) (.int .i64 t190)) (fun _ hk => hk.1.2) (.slice Ao16 t191.length co16)) (fun _ hk => hk.2) (.int .i64 t188)) (fun _ hk => hk.2) (.int .i64 t189)) (fun _ hk => hk.2) (.int .i64 t190)) (fun _ hk => hk.2) (.slice Ao16 t191.length co16)) (fun _ hk => trivial), sqB⟩
 ·replace c3 := Bool.eq_false_iff.mpr c3
  subst c3
  have H1 : (some (0, 0, 0, ([] : List Int))) = some (r1, r2, r3, r4) := by rw [if_neg (show ¬ (false = true) by decide)] at H; exact H
  clear H
  have H := H1
  clear H1
  simp only [Option.some.injEq, Prod.mk.injEq] at H
  obtain ⟨rfl, rfl, rfl, rfl⟩ := H
  go_enter Try.func33, Try.ntmps33
  go_wp2_with (first | ((with_reducible refine zA (N := 1) rfl ?_); refine zz ?hg (N := 1) ?hd (cs := #[.int .i64 a0_0, .int .i64 a0_1, .int .i64 a0_2, .slice A0_3 l0_3.length c0_3]) (t := 27) ?hr ?_; (case hd => rfl); (case hg => rfl); (case hr => exact sqG); intro gb185 hg w18 hbox hb; have n0_ := Aside0.mk (zj sqB hb); have n1_ := Aside0.mk (hbox); have n2_ := Aside0.mk ((sqS hg : w.heap.size ≤ gb185)); have n3_ := Aside0.mk ((sqS hg : w.heap.size ≤ gb185)); clear HB; have HB := n0_; have BK185 := n1_; have GW185 := n2_; have GE185 := n3_; clear n0_ n1_ n2_ n3_; clear hb hbox hg) | ((with_reducible refine zA (N := 2) rfl ?_); refine zz ?hg (N := 2) ?hd (cs := #[.int .i64 0, .int .i64 0, .int .i64 0, .slice none 0 0]) (t := 27) ?hr ?_; (case hd => rfl); (case hg => rfl); (case hr => exact sqG); intro gb186 hg w19 hbox hb; have n0_ := Aside0.mk (zh (g := gb185) (o := .cells #[.int .i64 a0_0, .int .i64 a0_1, .int .i64 a0_2, .slice A0_3 l0_3.length c0_3] 27 (0, 0)) (sqK BK185.out) hb); have n1_ := Aside0.mk (zj sqB hb); have n2_ := Aside0.mk (hbox); have n3_ := Aside0.mk ((sqS hg : w.heap.size ≤ gb186)); have n4_ := Aside0.mk ((sqS hg : w.heap.size ≤ gb186)); have n5_ := Aside0.mk ((by rw [hg]; exact Nat.ne_of_lt (zI (g := gb185) (o := .cells #[.int .i64 a0_0, .int .i64 a0_1, .int .i64 a0_2, .slice A0_3 l0_3.length c0_3] 27 (0, 0)) (sqK BK185.out)) : gb185 ≠ gb186)); have n6_ := Aside0.mk ((by rw [hg]; exact Nat.ne_of_gt (zI (g := gb185) (o := .cells #[.int .i64 a0_0, .int .i64 a0_1, .int .i64 a0_2, .slice A0_3 l0_3.length c0_3] 27 (0, 0)) (sqK BK185.out)) : gb186 ≠ gb185)); clear BK185; clear HB; have BK185 := n0_; have HB := n1_; have BK186 := n2_; have GW186 := n3_; have GE186 := n4_; have NB185_186 := n5_; have NB186_185 := n6_; clear n0_ n1_ n2_ n3_ n4_ n5_ n6_; clear hb hbox hg; have hnb20 := NB185_186.out; have hnc20 := NB186_185.out; have hcz21_0 : w19.cell? ⟨gb185, 0, none⟩ = some (.int .i64 a0_0) := (zb BK185.out 0).trans rfl; have hcz21_1 : w19.cell? ⟨gb185, 1, none⟩ = some (.int .i64 a0_1) := (zb BK185.out 1).trans rfl; have hcz21_2 : w19.cell? ⟨gb185, 2, none⟩ = some (.int .i64 a0_2) := (zb BK185.out 2).trans rfl; have hcz21_3 : w19.cell? ⟨gb185, 3, none⟩ = some (.slice A0_3 l0_3.length c0_3) := (zb BK185.out 3).trans rfl; have hfz21_0 := za BK185.out 0; have hfz21_1 := za BK185.out 1; have hfz21_2 := za BK185.out 2; have hfz21_3 := za BK185.out 3) | ((with_reducible refine zo (f := 39) rfl ?_); refine zT (some 6) rfl rfl Try.func39 (by kernel_rfl) rfl #[.agg #[.int .i64 a0_0, .int .i64 a0_1, .int .i64 a0_2, .slice A0_3 l0_3.length c0_3]] rfl sqM ?_; (with_reducible refine (zn.calls k a0_0 a0_1 a0_2 _ _ l0_3 false _ ?side1 ?side2 A2.out).mono ?_); (case side1 => exact sqC (Kd.qc HR0_3.out HB.out)); (case side2 => exact HC0_3.out); rintro e w22 ⟨rfl, hb⟩; refine ⟨_, rfl, ?_⟩; have n0_ := Aside0.mk (zh (g := gb185) (o := .cells #[.int .i64 a0_0, .int .i64 a0_1, .int .i64 a0_2, .slice A0_3 l0_3.length c0_3] 27 (0, 0)) (sqK BK185.out) hb); have n1_ := Aside0.mk (zh (g := gb186) (o := .cells #[.int .i64 0, .int .i64 0, .int .i64 0, .slice none 0 0] 27 (0, 0)) (sqK BK186.out) hb); have n2_ := Aside0.mk (zj sqB hb); clear BK185; clear BK186; clear HB; have BK185 := n0_; have BK186 := n1_; have HB := n2_; clear n0_ n1_ n2_; (try clear hb); (try clear hb2); (try clear hk); (try clear hi); have hcz23_0 : w22.cell? ⟨gb186, 0, none⟩ = some (.int .i64 0) := (zb BK186.out 0).trans rfl; have hcz23_1 : w22.cell? ⟨gb186, 1, none⟩ = some (.int .i64 0) := (zb BK186.out 1).trans rfl; have hcz23_2 : w22.cell? ⟨gb186, 2, none⟩ = some (.int .i64 0) := (zb BK186.out 2).trans rfl; have hcz23_3 : w22.cell? ⟨gb186, 3, none⟩ = some (.slice none 0 0) := (zb BK186.out 3).trans rfl; have hfz23_0 := za BK186.out 0; have hfz23_1 := za BK186.out 1; have hfz23_2 := za BK186.out 2; have hfz23_3 := za BK186.out 3))
  refine bodyPost_ret (results_cell_row rfl _ _ gb186 27 #[.int .i64 0, .int .i64 0, .int .i64 0, .slice none 0 0] (0, 0) _ rfl (by refine sqK ?_; refine zD (cs := #[.int .i64 0, .int .i64 0, .int .i64 0, .slice none 0 0]) ?_ 3 _ rfl; refine sqK ?_; refine zD (cs := #[.int .i64 0, .int .i64 0, .int .i64 0, .slice none 0 0]) ?_ 2 _ rfl; refine sqK ?_; refine zD (cs := #[.int .i64 0, .int .i64 0, .int .i64 0, .slice none 0 0]) ?_ 1 _ rfl; refine sqK ?_; refine zD (cs := #[.int .i64 0, .int .i64 0, .int .i64 0, .slice none 0 0]) ?_ 0 _ rfl; refine sqK ?_; exact BK186.out) Try.underlying27 rfl (by kernel_rfl)) rfl ?_
  exact ⟨_, sqE, sqN, sqB⟩

def zg.j0 : Nat → Bool → Int → Int → Int → List Int → Int → Int → Int → List Int → Int → Int → Int → List Int → Option (Bool)
 | 0, _, _, _, _, _, _, _, _, _, _, _, _, _ => none
 | k + 1, x42, x199000, x199001, x199002, x199003, x213000, x213001, x213002, x213003, x227000, x227001, x227002, x227003 => if x42 = true then (none) else ((zK.f k x227000 x227001 x227002 x227003 1).bind fun bt238 => ((zR.f k x227000 x227001 x227002 bt238.2 1).bind fun t240 => (if t240 < 0 then (none) else (if t240 = bt238.1 then ((zF.f k x199000 x199001 x199002 x199003).bind fun bt241 => ((zL.f k bt241.1 bt241.2.1 bt241.2.2.1 bt241.2.2.2).bind fun bt247 => ((zu.f k bt247.1 bt247.2.1 bt247.2.2.1 bt247.2.2.2 x213000 x213001 x213002 x213003).bind fun t254 => (if t254 = true then ((zR.f k x227000 x227001 x227002 bt238.2 1).bind fun t255 => (if t255 < 0 then (none) else (if t255 = bt238.1 then (some true) else (none)))) else (none))))) else (none)))))
def zg.f (k : Nat) (a0_0 : Int) (a0_1 : Int) (a0_2 : Int) (l0_3 : List Int) : Option (Bool) := (qB.f a0_0 a0_1 a0_2 l0_3 1048576).bind fun t199 => (if t199 < 0 then (some true) else ((zF.f k a0_0 a0_1 a0_2 l0_3).bind fun bt200 => ((zf.f k bt200.1 bt200.2.1 bt200.2.2.1 bt200.2.2.2).bind fun bt206 => ((zF.f k a0_0 a0_1 a0_2 l0_3).bind fun bt213 => ((zL.f k bt213.1 bt213.2.1 bt213.2.2.1 bt213.2.2.2).bind fun bt220 => ((zu.f k bt220.1 bt220.2.1 bt220.2.2.1 bt220.2.2.2 bt206.1 bt206.2.1 bt206.2.2.1 bt206.2.2.2).bind fun t227 => (if t227 = true then ((zF.f k a0_0 a0_1 a0_2 l0_3).bind fun bt228 => ((zu.f k bt213.1 bt213.2.1 bt213.2.2.1 bt213.2.2.2 bt228.1 bt228.2.1 bt228.2.2.1 bt228.2.2.2).bind fun t234 => (if t234 = true then ((zK.f k bt213.1 bt213.2.1 bt213.2.2.1 bt213.2.2.2 1).bind fun bt235 => (if bt235.1 < 0 then (zg.j0 k true a0_0 a0_1 a0_2 l0_3 bt206.1 bt206.2.1 bt206.2.2.1 bt206.2.2.2 bt220.1 bt220.2.1 bt220.2.2.1 bt220.2.2.2) else ((zu.f k bt220.1 bt220.2.1 bt220.2.2.1 bt220.2.2.2 bt206.1 bt206.2.1 bt206.2.2.1 bt206.2.2.2).bind fun t237 => (zg.j0 k (!t237) a0_0 a0_1 a0_2 l0_3 bt206.1 bt206.2.1 bt206.2.2.1 bt206.2.2.2 bt220.1 bt220.2.1 bt220.2.2.1 bt220.2.2.2)))) else (none)))) else (none))))))))
theorem zg.calls (k : Nat) (a0_0 : Int) (a0_1 : Int) (a0_2 : Int) (A0_3 : Option Addr) (c0_3 : Nat) (l0_3 : List Int) (r : Bool) (w : World) (hr0_3 : Kd.C (Kd.int .i64) w A0_3 l0_3.length l0_3) (hc0_3 : l0_3.length ≤ c0_3) (h : zg.f k a0_0 a0_1 a0_2 l0_3 = some r) :
  Calls Try.prog 9 #[.agg #[.int .i64 a0_0, .int .i64 a0_1, .int .i64 a0_2, .slice A0_3 l0_3.length c0_3]] w fun e w' => e = .returned (.bool r) ∧ Below w.heap.size w w' := by
 have hu24 := Try.underlying24
 have hu27 := Try.underlying27
 have HR0_3 := Aside0.mk hr0_3
 have HC0_3 := Aside0.mk hc0_3
 clear hr0_3 hc0_3
 have HB := Aside0.mk (Below.refl w.heap.size w)
 have H : ((qB.f a0_0 a0_1 a0_2 l0_3 1048576).bind fun t199 => (if t199 < 0 then (some true) else ((zF.f k a0_0 a0_1 a0_2 l0_3).bind fun bt200 => ((zf.f k bt200.1 bt200.2.1 bt200.2.2.1 bt200.2.2.2).bind fun bt206 => ((zF.f k a0_0 a0_1 a0_2 l0_3).bind fun bt213 => ((zL.f k bt213.1 bt213.2.1 bt213.2.2.1 bt213.2.2.2).bind fun bt220 => ((zu.f k bt220.1 bt220.2.1 bt220.2.2.1 bt220.2.2.2 bt206.1 bt206.2.1 bt206.2.2.1 bt206.2.2.2).bind fun t227 => (if t227 = true then ((zF.f k a0_0 a0_1 a0_2 l0_3).bind fun bt228 => ((zu.f k bt213.1 bt213.2.1 bt213.2.2.1 bt213.2.2.2 bt228.1 bt228.2.1 bt228.2.2.1 bt228.2.2.2).bind fun t234 => (if t234 = true then ((zK.f k bt213.1 bt213.2.1 bt213.2.2.1 bt213.2.2.2 1).bind fun bt235 => (if bt235.1 < 0 then (zg.j0 k true a0_0 a0_1 a0_2 l0_3 bt206.1 bt206.2.1 bt206.2.2.1 bt206.2.2.2 bt220.1 bt220.2.1 bt220.2.2.1 bt220.2.2.2) else ((zu.f k bt220.1 bt220.2.1 bt220.2.2.1 bt220.2.2.2 bt206.1 bt206.2.1 bt206.2.2.1 bt206.2.2.2).bind fun t237 => (zg.j0 k (!t237) a0_0 a0_1 a0_2 l0_3 bt206.1 bt206.2.1 bt206.2.2.1 bt206.2.2.2 bt220.1 bt220.2.1 bt220.2.2.1 bt220.2.2.2)))) else (none)))) else (none))))))))) = some r := h
 clear h
 replace H := Option.bind_eq_some_iff.mp H
 obtain ⟨t199, A20, H⟩ := H
 replace H : (if t199 < 0 then (some true) else ((zF.f k a0_0 a0_1 a0_2 l0_3).bind fun bt200 => ((zf.f k bt200.1 bt200.2.1 bt200.2.2.1 bt200.2.2.2).bind fun bt206 => ((zF.f k a0_0 a0_1 a0_2 l0_3).bind fun bt213 => ((zL.f k bt213.1 bt213.2.1 bt213.2.2.1 bt213.2.2.2).bind fun bt220 => ((zu.f k bt220.1 bt220.2.1 bt220.2.2.1 bt220.2.2.2 bt206.1 bt206.2.1 bt206.2.2.1 bt206.2.2.2).bind fun t227 => (if t227 = true then ((zF.f k a0_0 a0_1 a0_2 l0_3).bind fun bt228 => ((zu.f k bt213.1 bt213.2.1 bt213.2.2.1 bt213.2.2.2 bt228.1 bt228.2.1 bt228.2.2.1 bt228.2.2.2).bind fun t234 => (if t234 = true then ((zK.f k bt213.1 bt213.2.1 bt213.2.2.1 bt213.2.2.2 1).bind fun bt235 => (if bt235.1 < 0 then (zg.j0 k true a0_0 a0_1 a0_2 l0_3 bt206.1 bt206.2.1 bt206.2.2.1 bt206.2.2.2 bt220.1 bt220.2.1 bt220.2.2.1 bt220.2.2.2) else ((zu.f k bt220.1 bt220.2.1 bt220.2.2.1 bt220.2.2.2 bt206.1 bt206.2.1 bt206.2.2.1 bt206.2.2.2).bind fun t237 => (zg.j0 k (!t237) a0_0 a0_1 a0_2 l0_3 bt206.1 bt206.2.1 bt206.2.2.1 bt206.2.2.2 bt220.1 bt220.2.1 bt220.2.2.1 bt220.2.2.2)))) else (none)))) else (none)))))))) = some r := H
 have A2 := Aside0.mk A20
 clear A20
 by_cases c3 : t199 < 0
 ·rw [if_pos c3] at H
  have c3b0 : decide (t199 < 0) = true := decide_eq_true c3
  clear c3
  obtain rfl := Option.some.inj H
  go_enter Try.func9, Try.ntmps9
  go_wp2_with (first | ((with_reducible refine zA (N := 1) rfl ?_); refine zz ?hg (N := 1) ?hd (cs := #[.int .i64 a0_0, .int .i64 a0_1, .int .i64 a0_2, .slice A0_3 l0_3.length c0_3]) (t := 24) ?hr ?_; (case hd => rfl); (case hg => rfl); (case hr => exact sqG); intro gb198 hg w4 hbox hb; have n0_ := Aside0.mk (zj sqB hb); have n1_ := Aside0.mk (hbox); have n2_ := Aside0.mk ((sqS hg : w.heap.size ≤ gb198)); have n3_ := Aside0.mk ((sqS hg : w.heap.size ≤ gb198)); clear HB; have HB := n0_; have BK198 := n1_; have GW198 := n2_; have GE198 := n3_; clear n0_ n1_ n2_ n3_; clear hb hbox hg; have hcz5_0 : w4.cell? ⟨gb198, 0, none⟩ = some (.int .i64 a0_0) := (zb BK198.out 0).trans rfl; have hcz5_1 : w4.cell? ⟨gb198, 1, none⟩ = some (.int .i64 a0_1) := (zb BK198.out 1).trans rfl; have hcz5_2 : w4.cell? ⟨gb198, 2, none⟩ = some (.int .i64 a0_2) := (zb BK198.out 2).trans rfl; have hcz5_3 : w4.cell? ⟨gb198, 3, none⟩ = some (.slice A0_3 l0_3.length c0_3) := (zb BK198.out 3).trans rfl; have hfz5_0 := za BK198.out 0; have hfz5_1 := za BK198.out 1; have hfz5_2 := za BK198.out 2; have hfz5_3 := za BK198.out 3) | ((with_reducible refine zo (f := 11) rfl ?_); refine zT (some 13) rfl rfl Try.func11 (by kernel_rfl) rfl #[.agg #[.int .i64 a0_0, .int .i64 a0_1, .int .i64 a0_2, .slice A0_3 l0_3.length c0_3], .int .i64 1048576] rfl sqM ?_; (with_reducible refine (qB.calls a0_0 a0_1 a0_2 _ _ l0_3 1048576 t199 _ ?side1 ?side2 A2.out).mono ?_); (case side1 => exact sqC (Kd.qc HR0_3.out HB.out)); (case side2 => exact HC0_3.out); rintro e w6 ⟨rfl, hb⟩; refine ⟨_, rfl, ?_⟩; have n0_ := Aside0.mk (zh (g := gb198) (o := .cells #[.int .i64 a0_0, .int .i64 a0_1, .int .i64 a0_2, .slice A0_3 l0_3.length c0_3] 24 (0, 0)) (sqK BK198.out) hb); have n1_ := Aside0.mk (zj sqB hb); clear BK198; clear HB; have BK198 := n0_; have HB := n1_; clear n0_ n1_; (try clear hb); (try clear hb2); (try clear hk); (try clear hi)))
  go_ret
  exact ⟨sqE, sqB⟩
 ·rw [if_neg c3] at H
  have c3b0 : decide (t199 < 0) = false := decide_eq_false c3
  clear c3
  replace H := Option.bind_eq_some_iff.mp H
  obtain ⟨⟨t200, t201, t202, t203⟩, A70, H⟩ := H
  replace H : ((zf.f k t200 t201 t202 t203).bind fun bt206 => ((zF.f k a0_0 a0_1 a0_2 l0_3).bind fun bt213 => ((zL.f k bt213.1 bt213.2.1 bt213.2.2.1 bt213.2.2.2).bind fun bt220 => ((zu.f k bt220.1 bt220.2.1 bt220.2.2.1 bt220.2.2.2 bt206.1 bt206.2.1 bt206.2.2.1 bt206.2.2.2).bind fun t227 => (if t227 = true then ((zF.f k a0_0 a0_1 a0_2 l0_3).bind fun bt228 => ((zu.f k bt213.1 bt213.2.1 bt213.2.2.1 bt213.2.2.2 bt228.1 bt228.2.1 bt228.2.2.1 bt228.2.2.2).bind fun t234 => (if t234 = true then ((zK.f k bt213.1 bt213.2.1 bt213.2.2.1 bt213.2.2.2 1).bind fun bt235 => (if bt235.1 < 0 then (zg.j0 k true a0_0 a0_1 a0_2 l0_3 bt206.1 bt206.2.1 bt206.2.2.1 bt206.2.2.2 bt220.1 bt220.2.1 bt220.2.2.1 bt220.2.2.2) else ((zu.f k bt220.1 bt220.2.1 bt220.2.2.1 bt220.2.2.2 bt206.1 bt206.2.1 bt206.2.2.1 bt206.2.2.2).bind fun t237 => (zg.j0 k (!t237) a0_0 a0_1 a0_2 l0_3 bt206.1 bt206.2.1 bt206.2.2.1 bt206.2.2.2 bt220.1 bt220.2.1 bt220.2.2.1 bt220.2.2.2)))) else (none)))) else (none)))))) = some r := H
  have A7 := Aside0.mk A70
  clear A70
  replace H := Option.bind_eq_some_iff.mp H
  obtain ⟨⟨t206, t207, t208, t209⟩, A80, H⟩ := H
  replace H : ((zF.f k a0_0 a0_1 a0_2 l0_3).bind fun bt213 => ((zL.f k bt213.1 bt213.2.1 bt213.2.2.1 bt213.2.2.2).bind fun bt220 => ((zu.f k bt220.1 bt220.2.1 bt220.2.2.1 bt220.2.2.2 t206 t207 t208 t209).bind fun t227 => (if t227 = true then ((zF.f k a0_0 a0_1 a0_2 l0_3).bind fun bt228 => ((zu.f k bt213.1 bt213.2.1 bt213.2.2.1 bt213.2.2.2 bt228.1 bt228.2.1 bt228.2.2.1 bt228.2.2.2).bind fun t234 => (if t234 = true then ((zK.f k bt213.1 bt213.2.1 bt213.2.2.1 bt213.2.2.2 1).bind fun bt235 => (if bt235.1 < 0 then (zg.j0 k true a0_0 a0_1 a0_2 l0_3 t206 t207 t208 t209 bt220.1 bt220.2.1 bt220.2.2.1 bt220.2.2.2) else ((zu.f k bt220.1 bt220.2.1 bt220.2.2.1 bt220.2.2.2 t206 t207 t208 t209).bind fun t237 => (zg.j0 k (!t237) a0_0 a0_1 a0_2 l0_3 t206 t207 t208 t209 bt220.1 bt220.2.1 bt220.2.2.1 bt220.2.2.2)))) else (none)))) else (none))))) = some r := H
  have A8 := Aside0.mk A80
  clear A80
  replace H := Option.bind_eq_some_iff.mp H
  obtain ⟨⟨t213, t214, t215, t216⟩, A90, H⟩ := H
  replace H : ((zL.f k t213 t214 t215 t216).bind fun bt220 => ((zu.f k bt220.1 bt220.2.1 bt220.2.2.1 bt220.2.2.2 t206 t207 t208 t209).bind fun t227 => (if t227 = true then ((zF.f k a0_0 a0_1 a0_2 l0_3).bind fun bt228 => ((zu.f k t213 t214 t215 t216 bt228.1 bt228.2.1 bt228.2.2.1 bt228.2.2.2).bind fun t234 => (if t234 = true then ((zK.f k t213 t214 t215 t216 1).bind fun bt235 => (if bt235.1 < 0 then (zg.j0 k true a0_0 a0_1 a0_2 l0_3 t206 t207 t208 t209 bt220.1 bt220.2.1 bt220.2.2.1 bt220.2.2.2) else ((zu.f k bt220.1 bt220.2.1 bt220.2.2.1 bt220.2.2.2 t206 t207 t208 t209).bind fun t237 => (zg.j0 k (!t237) a0_0 a0_1 a0_2 l0_3 t206 t207 t208 t209 bt220.1 bt220.2.1 bt220.2.2.1 bt220.2.2.2)))) else (none)))) else (none)))) = some r := H
  have A9 := Aside0.mk A90
  clear A90
  replace H := Option.bind_eq_some_iff.mp H
  obtain ⟨⟨t220, t221, t222, t223⟩, A100, H⟩ := H
  replace H : ((zu.f k t220 t221 t222 t223 t206 t207 t208 t209).bind fun t227 => (if t227 = true then ((zF.f k a0_0 a0_1 a0_2 l0_3).bind fun bt228 => ((zu.f k t213 t214 t215 t216 bt228.1 bt228.2.1 bt228.2.2.1 bt228.2.2.2).bind fun t234 => (if t234 = true then ((zK.f k t213 t214 t215 t216 1).bind fun bt235 => (if bt235.1 < 0 then (zg.j0 k true a0_0 a0_1 a0_2 l0_3 t206 t207 t208 t209 t220 t221 t222 t223) else ((zu.f k t220 t221 t222 t223 t206 t207 t208 t209).bind fun t237 => (zg.j0 k (!t237) a0_0 a0_1 a0_2 l0_3 t206 t207 t208 t209 t220 t221 t222 t223)))) else (none)))) else (none))) = some r := H
  have A10 := Aside0.mk A100
  clear A100
  replace H := Option.bind_eq_some_iff.mp H
  obtain ⟨t227, A110, H⟩ := H
  replace H : (if t227 = true then ((zF.f k a0_0 a0_1 a0_2 l0_3).bind fun bt228 => ((zu.f k t213 t214 t215 t216 bt228.1 bt228.2.1 bt228.2.2.1 bt228.2.2.2).bind fun t234 => (if t234 = true then ((zK.f k t213 t214 t215 t216 1).bind fun bt235 => (if bt235.1 < 0 then (zg.j0 k true a0_0 a0_1 a0_2 l0_3 t206 t207 t208 t209 t220 t221 t222 t223) else ((zu.f k t220 t221 t222 t223 t206 t207 t208 t209).bind fun t237 => (zg.j0 k (!t237) a0_0 a0_1 a0_2 l0_3 t206 t207 t208 t209 t220 t221 t222 t223)))) else (none)))) else (none)) = some r := H
  have A11 := Aside0.mk A110
  clear A110
  by_cases c12 : t227 = true
  ·subst c12
   have H1 : ((zF.f k a0_0 a0_1 a0_2 l0_3).bind fun bt228 => ((zu.f k t213 t214 t215 t216 bt228.1 bt228.2.1 bt228.2.2.1 bt228.2.2.2).bind fun t234 => (if t234 = true then ((zK.f k t213 t214 t215 t216 1).bind fun bt235 => (if bt235.1 < 0 then (zg.j0 k true a0_0 a0_1 a0_2 l0_3 t206 t207 t208 t209 t220 t221 t222 t223) else ((zu.f k t220 t221 t222 t223 t206 t207 t208 t209).bind fun t237 => (zg.j0 k (!t237) a0_0 a0_1 a0_2 l0_3 t206 t207 t208 t209 t220 t221 t222 t223)))) else (none)))) = some r := by rw [if_pos rfl] at H; exact H
   clear H
   have H := H1
   clear H1
   replace H := Option.bind_eq_some_iff.mp H
   obtain ⟨⟨t228, t229, t230, t231⟩, A130, H⟩ := H
   replace H : ((zu.f k t213 t214 t215 t216 t228 t229 t230 t231).bind fun t234 => (if t234 = true then ((zK.f k t213 t214 t215 t216 1).bind fun bt235 => (if bt235.1 < 0 then (zg.j0 k true a0_0 a0_1 a0_2 l0_3 t206 t207 t208 t209 t220 t221 t222 t223) else ((zu.f k t220 t221 t222 t223 t206 t207 t208 t209).bind fun t237 => (zg.j0 k (!t237) a0_0 a0_1 a0_2 l0_3 t206 t207 t208 t209 t220 t221 t222 t223)))) else (none))) = some r := H
   have A13 := Aside0.mk A130
   clear A130
   replace H := Option.bind_eq_some_iff.mp H
   obtain ⟨t234, A140, H⟩ := H
   replace H : (if t234 = true then ((zK.f k t213 t214 t215 t216 1).bind fun bt235 => (if bt235.1 < 0 then (zg.j0 k true a0_0 a0_1 a0_2 l0_3 t206 t207 t208 t209 t220 t221 t222 t223) else ((zu.f k t220 t221 t222 t223 t206 t207 t208 t209).bind fun t237 => (zg.j0 k (!t237) a0_0 a0_1 a0_2 l0_3 t206 t207 t208 t209 t220 t221 t222 t223)))) else (none)) = some r := H
   have A14 := Aside0.mk A140
   clear A140
   by_cases c15 : t234 = true
   ·subst c15
    have H1 : ((zK.f k t213 t214 t215 t216 1).bind fun bt235 => (if bt235.1 < 0 then (zg.j0 k true a0_0 a0_1 a0_2 l0_3 t206 t207 t208 t209 t220 t221 t222 t223) else ((zu.f k t220 t221 t222 t223 t206 t207 t208 t209).bind fun t237 => (zg.j0 k (!t237) a0_0 a0_1 a0_2 l0_3 t206 t207 t208 t209 t220 t221 t222 t223)))) = some r := by rw [if_pos rfl] at H; exact H
    clear H
    have H := H1
    clear H1
    replace H := Option.bind_eq_some_iff.mp H
    obtain ⟨⟨t235, t236⟩, A160, H⟩ := H
    replace H : (if t235 < 0 then (zg.j0 k true a0_0 a0_1 a0_2 l0_3 t206 t207 t208 t209 t220 t221 t222 t223) else ((zu.f k t220 t221 t222 t223 t206 t207 t208 t209).bind fun t237 => (zg.j0 k (!t237) a0_0 a0_1 a0_2 l0_3 t206 t207 t208 t209 t220 t221 t222 t223))) = some r := H
    have A16 := Aside0.mk A160
    clear A160
    have HC17 := Aside0.mk H
    clear H
    go_enter Try.func9, Try.ntmps9
    try go_wp2_with (first | ((with_reducible refine zA (N := 1) rfl ?_); refine zz ?hg (N := 1) ?hd (cs := #[.int .i64 a0_0, .int .i64 a0_1, .int .i64 a0_2, .slice A0_3 l0_3.length c0_3]) (t := 24) ?hr ?_; (case hd => rfl); (case hg => rfl); (case hr => exact sqG); intro gb198 hg w18 hbox hb; have n0_ := Aside0.mk (zj sqB hb); have n1_ := Aside0.mk (hbox); have n2_ := Aside0.mk ((sqS hg : w.heap.size ≤ gb198)); have n3_ := Aside0.mk ((sqS hg : w.heap.size ≤ gb198)); clear HB; have HB := n0_; have BK198 := n1_; have GW198 := n2_; have GE198 := n3_; clear n0_ n1_ n2_ n3_; clear hb hbox hg; have hcz19_0 : w18.cell? ⟨gb198, 0, none⟩ = some (.int .i64 a0_0) := (zb BK198.out 0).trans rfl; have hcz19_1 : w18.cell? ⟨gb198, 1, none⟩ = some (.int .i64 a0_1) := (zb BK198.out 1).trans rfl; have hcz19_2 : w18.cell? ⟨gb198, 2, none⟩ = some (.int .i64 a0_2) := (zb BK198.out 2).trans rfl; have hcz19_3 : w18.cell? ⟨gb198, 3, none⟩ = some (.slice A0_3 l0_3.length c0_3) := (zb BK198.out 3).trans rfl; have hfz19_0 := za BK198.out 0; have hfz19_1 := za BK198.out 1; have hfz19_2 := za BK198.out 2; have hfz19_3 := za BK198.out 3) | ((with_reducible refine zo (f := 11) rfl ?_); refine zT (some 13) rfl rfl Try.func11 (by kernel_rfl) rfl #[.agg #[.int .i64 a0_0, .int .i64 a0_1, .int .i64 a0_2, .slice A0_3 l0_3.length c0_3], .int .i64 1048576] rfl sqM ?_; (with_reducible refine (qB.calls a0_0 a0_1 a0_2 _ _ l0_3 1048576 t199 _ ?side1 ?side2 A2.out).mono ?_); (case side1 => exact sqC (Kd.qc HR0_3.out HB.out)); (case side2 => exact HC0_3.out); rintro e w20 ⟨rfl, hb⟩; refine ⟨_, rfl, ?_⟩; have n0_ := Aside0.mk (zh (g := gb198) (o := .cells #[.int .i64 a0_0, .int .i64 a0_1, .int .i64 a0_2, .slice A0_3 l0_3.length c0_3] 24 (0, 0)) (sqK BK198.out) hb); have n1_ := Aside0.mk (zj sqB hb); clear BK198; clear HB; have BK198 := n0_; have HB := n1_; clear n0_ n1_; (try clear hb); (try clear hb2); (try clear hk); (try clear hi); have hcz21_0 : w20.cell? ⟨gb198, 0, none⟩ = some (.int .i64 a0_0) := (zb BK198.out 0).trans rfl; have hcz21_1 : w20.cell? ⟨gb198, 1, none⟩ = some (.int .i64 a0_1) := (zb BK198.out 1).trans rfl; have hcz21_2 : w20.cell? ⟨gb198, 2, none⟩ = some (.int .i64 a0_2) := (zb BK198.out 2).trans rfl; have hcz21_3 : w20.cell? ⟨gb198, 3, none⟩ = some (.slice A0_3 l0_3.length c0_3) := (zb BK198.out 3).trans rfl; have hfz21_0 := za BK198.out 0; have hfz21_1 := za BK198.out 1; have hfz21_2 := za BK198.out 2; have hfz21_3 := za BK198.out 3) | ((with_reducible refine zo (f := 13) rfl ?_); refine zT (some 17) rfl rfl Try.func13 (by kernel_rfl) rfl #[.agg #[.int .i64 a0_0, .int .i64 a0_1, .int .i64 a0_2, .slice A0_3 l0_3.length c0_3]] rfl sqM ?_; (with_reducible refine (zF.calls k a0_0 a0_1 a0_2 _ _ l0_3 t200 t201 t202 t203 _ ?side1 ?side2 A7.out).mono ?_); (case side1 => exact sqC (Kd.qc HR0_3.out HB.out)); (case side2 => exact HC0_3.out); rintro e w22 ⟨v204, rfl, ho0, hb⟩; refine ⟨_, rfl, ?_⟩; have n0_ := Aside0.mk (Kd.qx ho0 (zO sqB)); have n1_ := Aside0.mk (zh (g := gb198) (o := .cells #[.int .i64 a0_0, .int .i64 a0_1, .int .i64 a0_2, .slice A0_3 l0_3.length c0_3] 24 (0, 0)) (sqK BK198.out) hb); have n2_ := Aside0.mk (zj sqB hb); clear BK198; clear HB; have HO205 := n0_; have BK198 := n1_; have HB := n2_; clear n0_ n1_ n2_; (try clear hb); (try clear hb2); (try clear hk); (try clear hi); (try clear ho0); obtain ⟨Ao23, co23, eo23⟩ := Kd.qb HO205.out; subst eo23) | ((with_reducible refine zo (f := 32) rfl ?_); refine zT (some 18) rfl rfl Try.func32 (by kernel_rfl) rfl #[.agg #[.int .i64 t200, .int .i64 t201, .int .i64 t202, .slice Ao23 t203.length co23]] rfl sqM ?_; (with_reducible refine (zf.calls k t200 t201 t202 _ _ t203 t206 t207 t208 t209 _ ?side1 ?side2 A8.out).mono ?_); (case side1 => exact sqC (Kd.zx HO205.out).2.2); (case side2 => exact (Kd.zx HO205.out).2.1); rintro e w24 ⟨v210, rfl, ho0, hb⟩; refine ⟨_, rfl, ?_⟩; have n0_ := Aside0.mk (Kd.qv (sqR HO205.out) (Kd.qE ho0) hb); have n1_ := Aside0.mk (Kd.qx (Kd.qR ho0 (Kd.jH (sqR HO205.out))) (zO sqB)); have n2_ := Aside0.mk (zh (g := gb198) (o := .cells #[.int .i64 a0_0, .int .i64 a0_1, .int .i64 a0_2, .slice A0_3 l0_3.length c0_3] 24 (0, 0)) (sqK BK198.out) hb); have n3_ := Aside0.mk (zj sqB hb); clear HO205; clear BK198; clear HB; have HO205 := n0_; have HO211 := n1_; have BK198 := n2_; have HB := n3_; clear n0_ n1_ n2_ n3_; (try clear hb); (try clear hb2); (try clear hk); (try clear hi); (try clear ho0)) | ((with_reducible refine zA (N := 4) rfl ?_); refine zz ?hg (N := 4) ?hd (cs := #[.int .i64 0, .int .i64 0, .int .i64 0, .slice none 0 0]) (t := 27) ?hr ?_; (case hd => rfl); (case hg => rfl); (case hr => exact sqG); intro gb212 hg w25 hbox hb; have n0_ := Aside0.mk (Kd.zJ (sqR HO205.out) hb); have n1_ := Aside0.mk (Kd.zJ (sqR HO211.out) hb); have n2_ := Aside0.mk (zh (g := gb198) (o := .cells #[.int .i64 a0_0, .int .i64 a0_1, .int .i64 a0_2, .slice A0_3 l0_3.length c0_3] 24 (0, 0)) (sqK BK198.out) hb); have n3_ := Aside0.mk (zj sqB hb); have n4_ := Aside0.mk (hbox); have n5_ := Aside0.mk ((sqS hg : w.heap.size ≤ gb212)); have n6_ := Aside0.mk ((sqS hg : w.heap.size ≤ gb212)); have n7_ := Aside0.mk ((by rw [hg]; exact Nat.ne_of_lt (zI (g := gb198) (o := .cells #[.int .i64 a0_0, .int .i64 a0_1, .int .i64 a0_2, .slice A0_3 l0_3.length c0_3] 24 (0, 0)) (sqK BK198.out)) : gb198 ≠ gb212)); have n8_ := Aside0.mk ((by rw [hg]; exact Nat.ne_of_gt (zI (g := gb198) (o := .cells #[.int .i64 a0_0, .int .i64 a0_1, .int .i64 a0_2, .slice A0_3 l0_3.length c0_3] 24 (0, 0)) (sqK BK198.out)) : gb212 ≠ gb198)); clear HO205; clear HO211; clear BK198; clear HB; have HO205 := n0_; have HO211 := n1_; have BK198 := n2_; have HB := n3_; have BK212 := n4_; have GW212 := n5_; have GE212 := n6_; have NB198_212 := n7_; have NB212_198 := n8_; clear n0_ n1_ n2_ n3_ n4_ n5_ n6_ n7_ n8_; clear hb hbox hg; have hnb26 := NB212_198.out; have hnc26 := NB198_212.out; have hcz27_0 : w25.cell? ⟨gb212, 0, none⟩ = some (.int .i64 0) := (zb BK212.out 0).trans rfl; have hcz27_1 : w25.cell? ⟨gb212, 1, none⟩ = some (.int .i64 0) := (zb BK212.out 1).trans rfl; have hcz27_2 : w25.cell? ⟨gb212, 2, none⟩ = some (.int .i64 0) := (zb BK212.out 2).trans rfl; have hcz27_3 : w25.cell? ⟨gb212, 3, none⟩ = some (.slice none 0 0) := (zb BK212.out 3).trans rfl; have hfz27_0 := za BK212.out 0; have hfz27_1 := za BK212.out 1; have hfz27_2 := za BK212.out 2; have hfz27_3 := za BK212.out 3; obtain ⟨Ao28, co28, eo28⟩ := Kd.qb HO211.out; subst eo28; have hcz29_0 : w25.cell? ⟨gb198, 0, none⟩ = some (.int .i64 a0_0) := (zb BK198.out 0).trans rfl; have hcz29_1 : w25.cell? ⟨gb198, 1, none⟩ = some (.int .i64 a0_1) := (zb BK198.out 1).trans rfl; have hcz29_2 : w25.cell? ⟨gb198, 2, none⟩ = some (.int .i64 a0_2) := (zb BK198.out 2).trans rfl; have hcz29_3 : w25.cell? ⟨gb198, 3, none⟩ = some (.slice A0_3 l0_3.length c0_3) := (zb BK198.out 3).trans rfl; have hfz29_0 := za BK198.out 0; have hfz29_1 := za BK198.out 1; have hfz29_2 := za BK198.out 2; have hfz29_3 := za BK198.out 3) | ((with_reducible refine zo (f := 13) rfl ?_); refine zT (some 20) rfl rfl Try.func13 (by kernel_rfl) rfl #[.agg #[.int .i64 a0_0, .int .i64 a0_1, .int .i64 a0_2, .slice A0_3 l0_3.length c0_3]] rfl sqM ?_; (with_reducible refine (zF.calls k a0_0 a0_1 a0_2 _ _ l0_3 t213 t214 t215 t216 _ ?side1 ?side2 A9.out).mono ?_); (case side1 => exact Kd.qc HR0_3.out sqB); (case side2 => exact HC0_3.out); rintro e w30 ⟨v217, rfl, ho0, hb⟩; refine ⟨_, rfl, ?_⟩; have n0_ := Aside0.mk (Kd.qv (by refine sqR ?_; exact (Kd.zE (Kd.zv (p := ⟨gb212, 3, none⟩) (Kd.zv (p := ⟨gb212, 2, none⟩) (Kd.zv (p := ⟨gb212, 1, none⟩) (Kd.zv (p := ⟨gb212, 0, none⟩) (Kd.zQ HO205.out BK212.out (by decide)) (fun _ hk => hk.2) (.int .i64 t206)) (fun _ hk => hk.2) (.int .i64 t207)) (fun _ hk => hk.2) (.int .i64 t208)) (fun _ hk => hk.2) (.slice Ao28 t209.length co28)) (fun _ h_ => h_.1))) (Kd.qE ho0) hb); have n1_ := Aside0.mk (Kd.qv (by refine sqR ?_; exact (Kd.zE (Kd.zv (p := ⟨gb212, 3, none⟩) (Kd.zv (p := ⟨gb212, 2, none⟩) (Kd.zv (p := ⟨gb212, 1, none⟩) (Kd.zv (p := ⟨gb212, 0, none⟩) (Kd.zQ HO211.out BK212.out (by decide)) (fun _ hk => hk.2) (.int .i64 t206)) (fun _ hk => hk.2) (.int .i64 t207)) (fun _ hk => hk.2) (.int .i64 t208)) (fun _ hk => hk.2) (.slice Ao28 t209.length co28)) (fun _ h_ => h_.1))) (Kd.qE ho0) hb); have n2_ := Aside0.mk (Kd.qx (Kd.qR (Kd.qR ho0 (Kd.jH (by refine sqR ?_; exact (Kd.zE (Kd.zv (p := ⟨gb212, 3, none⟩) (Kd.zv (p := ⟨gb212, 2, none⟩) (Kd.zv (p := ⟨gb212, 1, none⟩) (Kd.zv (p := ⟨gb212, 0, none⟩) (Kd.zQ HO205.out BK212.out (by decide)) (fun _ hk => hk.2) (.int .i64 t206)) (fun _ hk => hk.2) (.int .i64 t207)) (fun _ hk => hk.2) (.int .i64 t208)) (fun _ hk => hk.2) (.slice Ao28 t209.length co28)) (fun _ h_ => h_.1))))) (Kd.jH (by refine sqR ?_; exact (Kd.zE (Kd.zv (p := ⟨gb212, 3, none⟩) (Kd.zv (p := ⟨gb212, 2, none⟩) (Kd.zv (p := ⟨gb212, 1, none⟩) (Kd.zv (p := ⟨gb212, 0, none⟩) (Kd.zQ HO211.out BK212.out (by decide)) (fun _ hk => hk.2) (.int .i64 t206)) (fun _ hk => hk.2) (.int .i64 t207)) (fun _ hk => hk.2) (.int .i64 t208)) (fun _ hk => hk.2) (.slice Ao28 t209.length co28)) (fun _ h_ => h_.1))))) (zO sqB)); have n3_ := Aside0.mk (zh (g := gb198) (o := .cells #[.int .i64 a0_0, .int .i64 a0_1, .int .i64 a0_2, .slice A0_3 l0_3.length c0_3] 24 (0, 0)) (by refine sqK ?_; refine zw ?_ NB198_212.out _; refine sqK ?_; refine zw ?_ NB198_212.out _; refine sqK ?_; refine zw ?_ NB198_212.out _; refine sqK ?_; refine zw ?_ NB198_212.out _; refine sqK ?_; exact BK198.out) hb); have n4_ := Aside0.mk (zh (g := gb212) (o := .cells #[.int .i64 t206, .int .i64 t207, .int .i64 t208, .slice Ao28 t209.length co28] 27 (0, 0)) (by refine sqK ?_; refine zD (cs := #[.int .i64 t206, .int .i64 t207, .int .i64 t208, .slice none 0 0]) ?_ 3 _ rfl; refine sqK ?_; refine zD (cs := #[.int .i64 t206, .int .i64 t207, .int .i64 0, .slice none 0 0]) ?_ 2 _ rfl; refine sqK ?_; refine zD (cs := #[.int .i64 t206, .int .i64 0, .int .i64 0, .slice none 0 0]) ?_ 1 _ rfl; refine sqK ?_; refine zD (cs := #[.int .i64 0, .int .i64 0, .int .i64 0, .slice none 0 0]) ?_ 0 _ rfl; refine sqK ?_; exact BK212.out) hb); have n5_ := Aside0.mk (zj sqB hb); clear HO205; clear HO211; clear BK198; clear BK212; clear HB; have HO205 := n0_; have HO211 := n1_; have HO218 := n2_; have BK198 := n3_; have BK212 := n4_; have HB := n5_; clear n0_ n1_ n2_ n3_ n4_ n5_; (try clear hb); (try clear hb2); (try clear hk); (try clear hi); (try clear ho0)) | ((with_reducible refine zA (N := 5) rfl ?_); refine zz ?hg (N := 5) ?hd (cs := #[.int .i64 0, .int .i64 0, .int .i64 0, .slice none 0 0]) (t := 27) ?hr ?_; (case hd => rfl); (case hg => rfl); (case hr => exact sqG); intro gb219 hg w31 hbox hb; have n0_ := Aside0.mk (Kd.zJ (sqR HO205.out) hb); have n1_ := Aside0.mk (Kd.zJ (sqR HO211.out) hb); have n2_ := Aside0.mk (Kd.zJ (sqR HO218.out) hb); have n3_ := Aside0.mk (zh (g := gb198) (o := .cells #[.int .i64 a0_0, .int .i64 a0_1, .int .i64 a0_2, .slice A0_3 l0_3.length c0_3] 24 (0, 0)) (sqK BK198.out) hb); have n4_ := Aside0.mk (zh (g := gb212) (o := .cells #[.int .i64 t206, .int .i64 t207, .int .i64 t208, .slice Ao28 t209.length co28] 27 (0, 0)) (sqK BK212.out) hb); have n5_ := Aside0.mk (zj sqB hb); have n6_ := Aside0.mk (hbox); have n7_ := Aside0.mk ((sqS hg : w.heap.size ≤ gb219)); have n8_ := Aside0.mk ((sqS hg : w.heap.size ≤ gb219)); have n9_ := Aside0.mk ((by rw [hg]; exact Nat.ne_of_lt (zI (g := gb198) (o := .cells #[.int .i64 a0_0, .int .i64 a0_1, .int .i64 a0_2, .slice A0_3 l0_3.length c0_3] 24 (0, 0)) (sqK BK198.out)) : gb198 ≠ gb219)); have n10_ := Aside0.mk ((by rw [hg]; exact Nat.ne_of_gt (zI (g := gb198) (o := .cells #[.int .i64 a0_0, .int .i64 a0_1, .int .i64 a0_2, .slice A0_3 l0_3.length c0_3] 24 (0, 0)) (sqK BK198.out)) : gb219 ≠ gb198)); have n11_ := Aside0.mk ((by rw [hg]; exact Nat.ne_of_lt (zI (g := gb212) (o := .cells #[.int .i64 t206, .int .i64 t207, .int .i64 t208, .slice Ao28 t209.length co28] 27 (0, 0)) (sqK BK212.out)) : gb212 ≠ gb219)); have n12_ := Aside0.mk ((by rw [hg]; exact Nat.ne_of_gt (zI (g := gb212) (o := .cells #[.int .i64 t206, .int .i64 t207, .int .i64 t208, .slice Ao28 t209.length co28] 27 (0, 0)) (sqK BK212.out)) : gb219 ≠ gb212)); clear HO205; clear HO211; clear HO218; clear BK198; clear BK212; clear HB; have HO205 := n0_; have HO211 := n1_; have HO218 := n2_; have BK198 := n3_; have BK212 := n4_; have HB := n5_; have BK219 := n6_; have GW219 := n7_; have GE219 := n8_; have NB198_219 := n9_; have NB219_198 := n10_; have NB212_219 := n11_; have NB219_212 := n12_; clear n0_ n1_ n2_ n3_ n4_ n5_ n6_ n7_ n8_ n9_ n10_ n11_ n12_; clear hb hbox hg; have hnb32 := NB219_198.out; have hnc32 := NB198_219.out; have hnb33 := NB219_212.out; have hnc33 := NB212_219.out; have hcz34_0 : w31.cell? ⟨gb219, 0, none⟩ = some (.int .i64 0) := (zb BK219.out 0).trans rfl; have hcz34_1 : w31.cell? ⟨gb219, 1, none⟩ = some (.int .i64 0) := (zb BK219.out 1).trans rfl; have hcz34_2 : w31.cell? ⟨gb219, 2, none⟩ = some (.int .i64 0) := (zb BK219.out 2).trans rfl; have hcz34_3 : w31.cell? ⟨gb219, 3, none⟩ = some (.slice none 0 0) := (zb BK219.out 3).trans rfl; have hfz34_0 := za BK219.out 0; have hfz34_1 := za BK219.out 1; have hfz34_2 := za BK219.out 2; have hfz34_3 := za BK219.out 3; obtain ⟨Ao35, co35, eo35⟩ := Kd.qb HO218.out; subst eo35) | ((with_reducible refine zo (f := 33) rfl ?_); refine zT (some 22) rfl rfl Try.func33 (by kernel_rfl) rfl #[.agg #[.int .i64 t213, .int .i64 t214, .int .i64 t215, .slice Ao35 t216.length co35]] rfl sqM ?_; (with_reducible refine (zL.calls k t213 t214 t215 _ _ t216 t220 t221 t222 t223 _ ?side1 ?side2 A10.out).mono ?_); (case side1 => refine (Kd.zx (e := 3) (base := w.heap.size) (ok := fun k_ => ((True ∧ some k_ ≠ (.slice Ao23 t203.length co23 : Value).ownBlock) ∧ some k_ ≠ (.slice Ao28 t209.length co28 : Value).ownBlock)) (n := t216.length) (c := co35) ?_).2.2; exact (by refine sqR ?_; exact (Kd.zE (Kd.zv (p := ⟨gb219, 3, none⟩) (Kd.zv (p := ⟨gb219, 2, none⟩) (Kd.zv (p := ⟨gb219, 1, none⟩) (Kd.zv (p := ⟨gb219, 0, none⟩) (Kd.zQ HO218.out BK219.out (by decide)) (fun _ hk => hk.2) (.int .i64 t213)) (fun _ hk => hk.2) (.int .i64 t214)) (fun _ hk => hk.2) (.int .i64 t215)) (fun _ hk => hk.2) (.slice Ao35 t216.length co35)) (fun _ h_ => h_.1)))); (case side2 => exact (Kd.zx HO218.out).2.1); rintro e w36 ⟨v224, rfl, ho0, hb⟩; refine ⟨_, rfl, ?_⟩; have n0_ := Aside0.mk (Kd.qv (by refine sqR ?_; exact (Kd.zE (Kd.zv (p := ⟨gb219, 3, none⟩) (Kd.zv (p := ⟨gb219, 2, none⟩) (Kd.zv (p := ⟨gb219, 1, none⟩) (Kd.zv (p := ⟨gb219, 0, none⟩) (Kd.zQ HO205.out BK219.out (by decide)) (fun _ hk => hk.2) (.int .i64 t213)) (fun _ hk => hk.2) (.int .i64 t214)) (fun _ hk => hk.2) (.int .i64 t215)) (fun _ hk => hk.2) (.slice Ao35 t216.length co35)) (fun _ h_ => h_.1))) (Kd.qE ho0) hb); have n1_ := Aside0.mk (Kd.qv (by refine sqR ?_; exact (Kd.zE (Kd.zv (p := ⟨gb219, 3, none⟩) (Kd.zv (p := ⟨gb219, 2, none⟩) (Kd.zv (p := ⟨gb219, 1, none⟩) (Kd.zv (p := ⟨gb219, 0, none⟩) (Kd.zQ HO211.out BK219.out (by decide)) (fun _ hk => hk.2) (.int .i64 t213)) (fun _ hk => hk.2) (.int .i64 t214)) (fun _ hk => hk.2) (.int .i64 t215)) (fun _ hk => hk.2) (.slice Ao35 t216.length co35)) (fun _ h_ => h_.1))) (Kd.qE ho0) hb); have n2_ := Aside0.mk (Kd.qv (by refine sqR ?_; exact (Kd.zE (Kd.zv (p := ⟨gb219, 3, none⟩) (Kd.zv (p := ⟨gb219, 2, none⟩) (Kd.zv (p := ⟨gb219, 1, none⟩) (Kd.zv (p := ⟨gb219, 0, none⟩) (Kd.zQ HO218.out BK219.out (by decide)) (fun _ hk => hk.2) (.int .i64 t213)) (fun _ hk => hk.2) (.int .i64 t214)) (fun _ hk => hk.2) (.int .i64 t215)) (fun _ hk => hk.2) (.slice Ao35 t216.length co35)) (fun _ h_ => h_.1))) (Kd.qE ho0) hb); have n3_ := Aside0.mk (Kd.qx (Kd.qR (Kd.qR (Kd.qR ho0 (Kd.jH (by refine sqR ?_; exact (Kd.zE (Kd.zv (p := ⟨gb219, 3, none⟩) (Kd.zv (p := ⟨gb219, 2, none⟩) (Kd.zv (p := ⟨gb219, 1, none⟩) (Kd.zv (p := ⟨gb219, 0, none⟩) (Kd.zQ HO205.out BK219.out (by decide)) (fun _ hk => hk.2) (.int .i64 t213)) (fun _ hk => hk.2) (.int .i64 t214)) (fun _ hk => hk.2) (.int .i64 t215)) (fun _ hk => hk.2) (.slice Ao35 t216.length co35)) (fun _ h_ => h_.1))))) (Kd.jH (by refine sqR ?_; exact (Kd.zE (Kd.zv (p := ⟨gb219, 3, none⟩) (Kd.zv (p := ⟨gb219, 2, none⟩) (Kd.zv (p := ⟨gb219, 1, none⟩) (Kd.zv (p := ⟨gb219, 0, none⟩) (Kd.zQ HO211.out BK219.out (by decide)) (fun _ hk => hk.2) (.int .i64 t213)) (fun _ hk => hk.2) (.int .i64 t214)) (fun _ hk => hk.2) (.int .i64 t215)) (fun _ hk => hk.2) (.slice Ao35 t216.length co35)) (fun _ h_ => h_.1))))) (Kd.jH (by refine sqR ?_; exact (Kd.zE (Kd.zv (p := ⟨gb219, 3, none⟩) (Kd.zv (p := ⟨gb219, 2, none⟩) (Kd.zv (p := ⟨gb219, 1, none⟩) (Kd.zv (p := ⟨gb219, 0, none⟩) (Kd.zQ HO218.out BK219.out (by decide)) (fun _ hk => hk.2) (.int .i64 t213)) (fun _ hk => hk.2) (.int .i64 t214)) (fun _ hk => hk.2) (.int .i64 t215)) (fun _ hk => hk.2) (.slice Ao35 t216.length co35)) (fun _ h_ => h_.1))))) (zO sqB)); have n4_ := Aside0.mk (zh (g := gb198) (o := .cells #[.int .i64 a0_0, .int .i64 a0_1, .int .i64 a0_2, .slice A0_3 l0_3.length c0_3] 24 (0, 0)) (by refine sqK ?_; refine zw ?_ NB198_219.out _; refine sqK ?_; refine zw ?_ NB198_219.out _; refine sqK ?_; refine zw ?_ NB198_219.out _; refine sqK ?_; refine zw ?_ NB198_219.out _; refine sqK ?_; exact BK198.out) hb); have n5_ := Aside0.mk (zh (g := gb212) (o := .cells #[.int .i64 t206, .int .i64 t207, .int .i64 t208, .slice Ao28 t209.length co28] 27 (0, 0)) (by refine sqK ?_; refine zw ?_ NB212_219.out _; refine sqK ?_; refine zw ?_ NB212_219.out _; refine sqK ?_; refine zw ?_ NB212_219.out _; refine sqK ?_; refine zw ?_ NB212_219.out _; refine sqK ?_; exact BK212.out) hb); have n6_ := Aside0.mk (zh (g := gb219) (o := .cells #[.int .i64 t213, .int .i64 t214, .int .i64 t215, .slice Ao35 t216.length co35] 27 (0, 0)) (by refine sqK ?_; refine zD (cs := #[.int .i64 t213, .int .i64 t214, .int .i64 t215, .slice none 0 0]) ?_ 3 _ rfl; refine sqK ?_; refine zD (cs := #[.int .i64 t213, .int .i64 t214, .int .i64 0, .slice none 0 0]) ?_ 2 _ rfl; refine sqK ?_; refine zD (cs := #[.int .i64 t213, .int .i64 0, .int .i64 0, .slice none 0 0]) ?_ 1 _ rfl; refine sqK ?_; refine zD (cs := #[.int .i64 0, .int .i64 0, .int .i64 0, .slice none 0 0]) ?_ 0 _ rfl; refine sqK ?_; exact BK219.out) hb); have n7_ := Aside0.mk (zj sqB hb); clear HO205; clear HO211; clear HO218; clear BK198; clear BK212; clear BK219; clear HB; have HO205 := n0_; have HO211 := n1_; have HO218 := n2_; have HO225 := n3_; have BK198 := n4_; have BK212 := n5_; have BK219 := n6_; have HB := n7_; clear n0_ n1_ n2_ n3_ n4_ n5_ n6_ n7_; (try clear hb); (try clear hb2); (try clear hk); (try clear hi); (try clear ho0)) | ((with_reducible refine zA (N := 6) rfl ?_); refine zz ?hg (N := 6) ?hd (cs := #[.int .i64 0, .int .i64 0, .int .i64 0, .slice none 0 0]) (t := 27) ?hr ?_; (case hd => rfl); (case hg => rfl); (case hr => exact sqG); intro gb226 hg w37 hbox hb; have n0_ := Aside0.mk (Kd.zJ (sqR HO205.out) hb); have n1_ := Aside0.mk (Kd.zJ (sqR HO211.out) hb); have n2_ := Aside0.mk (Kd.zJ (sqR HO218.out) hb); have n3_ := Aside0.mk (Kd.zJ (sqR HO225.out) hb); have n4_ := Aside0.mk (zh (g := gb198) (o := .cells #[.int .i64 a0_0, .int .i64 a0_1, .int .i64 a0_2, .slice A0_3 l0_3.length c0_3] 24 (0, 0)) (sqK BK198.out) hb); have n5_ := Aside0.mk (zh (g := gb212) (o := .cells #[.int .i64 t206, .int .i64 t207, .int .i64 t208, .slice Ao28 t209.length co28] 27 (0, 0)) (sqK BK212.out) hb); have n6_ := Aside0.mk (zh (g := gb219) (o := .cells #[.int .i64 t213, .int .i64 t214, .int .i64 t215, .slice Ao35 t216.length co35] 27 (0, 0)) (sqK BK219.out) hb); have n7_ := Aside0.mk (zj sqB hb); have n8_ := Aside0.mk (hbox); have n9_ := Aside0.mk ((sqS hg : w.heap.size ≤ gb226)); have n10_ := Aside0.mk ((sqS hg : w.heap.size ≤ gb226)); have n11_ := Aside0.mk ((by rw [hg]; exact Nat.ne_of_lt (zI (g := gb198) (o := .cells #[.int .i64 a0_0, .int .i64 a0_1, .int .i64 a0_2, .slice A0_3 l0_3.length c0_3] 24 (0, 0)) (sqK BK198.out)) : gb198 ≠ gb226)); have n12_ := Aside0.mk ((by rw [hg]; exact Nat.ne_of_gt (zI (g := gb198) (o := .cells #[.int .i64 a0_0, .int .i64 a0_1, .int .i64 a0_2, .slice A0_3 l0_3.length c0_3] 24 (0, 0)) (sqK BK198.out)) : gb226 ≠ gb198)); have n13_ := Aside0.mk ((by rw [hg]; exact Nat.ne_of_lt (zI (g := gb212) (o := .cells #[.int .i64 t206, .int .i64 t207, .int .i64 t208, .slice Ao28 t209.length co28] 27 (0, 0)) (sqK BK212.out)) : gb212 ≠ gb226)); have n14_ := Aside0.mk ((by rw [hg]; exact Nat.ne_of_gt (zI (g := gb212) (o := .cells #[.int .i64 t206, .int .i64 t207, .int .i64 t208, .slice Ao28 t209.length co28] 27 (0, 0)) (sqK BK212.out)) : gb226 ≠ gb212)); have n15_ := Aside0.mk ((by rw [hg]; exact Nat.ne_of_lt (zI (g := gb219) (o := .cells #[.int .i64 t213, .int .i64 t214, .int .i64 t215, .slice Ao35 t216.length co35] 27 (0, 0)) (sqK BK219.out)) : gb219 ≠ gb226)); have n16_ := Aside0.mk ((by rw [hg]; exact Nat.ne_of_gt (zI (g := gb219) (o := .cells #[.int .i64 t213, .int .i64 t214, .int .i64 t215, .slice Ao35 t216.length co35] 27 (0, 0)) (sqK BK219.out)) : gb226 ≠ gb219)); clear HO205; clear HO211; clear HO218; clear HO225; clear BK198; clear BK212; clear BK219; clear HB; have HO205 := n0_; have HO211 := n1_; have HO218 := n2_; have HO225 := n3_; have BK198 := n4_; have BK212 := n5_; have BK219 := n6_; have HB := n7_; have BK226 := n8_; have GW226 := n9_; have GE226 := n10_; have NB198_226 := n11_; have NB226_198 := n12_; have NB212_226 := n13_; have NB226_212 := n14_; have NB219_226 := n15_; have NB226_219 := n16_; clear n0_ n1_ n2_ n3_ n4_ n5_ n6_ n7_ n8_ n9_ n10_ n11_ n12_ n13_ n14_ n15_ n16_; clear hb hbox hg; have hnb38 := NB226_198.out; have hnc38 := NB198_226.out; have hnb39 := NB226_212.out; have hnc39 := NB212_226.out; have hnb40 := NB226_219.out; have hnc40 := NB219_226.out; have hcz41_0 : w37.cell? ⟨gb226, 0, none⟩ = some (.int .i64 0) := (zb BK226.out 0).trans rfl; have hcz41_1 : w37.cell? ⟨gb226, 1, none⟩ = some (.int .i64 0) := (zb BK226.out 1).trans rfl; have hcz41_2 : w37.cell? ⟨gb226, 2, none⟩ = some (.int .i64 0) := (zb BK226.out 2).trans rfl; have hcz41_3 : w37.cell? ⟨gb226, 3, none⟩ = some (.slice none 0 0) := (zb BK226.out 3).trans rfl; have hfz41_0 := za BK226.out 0; have hfz41_1 := za BK226.out 1; have hfz41_2 := za BK226.out 2; have hfz41_3 := za BK226.out 3; obtain ⟨Ao42, co42, eo42⟩ := Kd.qb HO225.out; subst eo42; have hcz43_0 : w37.cell? ⟨gb212, 0, none⟩ = some (.int .i64 t206) := (zb BK212.out 0).trans rfl; have hcz43_1 : w37.cell? ⟨gb212, 1, none⟩ = some (.int .i64 t207) := (zb BK212.out 1).trans rfl; have hcz43_2 : w37.cell? ⟨gb212, 2, none⟩ = some (.int .i64 t208) := (zb BK212.out 2).trans rfl; have hcz43_3 : w37.cell? ⟨gb212, 3, none⟩ = some (.slice Ao28 t209.length co28) := (zb BK212.out 3).trans rfl; have hfz43_0 := za BK212.out 0; have hfz43_1 := za BK212.out 1; have hfz43_2 := za BK212.out 2; have hfz43_3 := za BK212.out 3) | ((with_reducible refine zo (f := 15) rfl ?_); refine zT (some 25) rfl rfl Try.func15 (by kernel_rfl) rfl #[.agg #[.int .i64 t220, .int .i64 t221, .int .i64 t222, .slice Ao42 t223.length co42], .agg #[.int .i64 t206, .int .i64 t207, .int .i64 t208, .slice Ao28 t209.length co28]] rfl sqM ?_; (with_reducible refine (zu.calls k t220 t221 t222 _ _ t223 t206 t207 t208 _ _ t209 true _ ?side1 ?side2 ?side3 ?side4 A11.out).mono ?_); (case side1 => refine (Kd.zx (e := 3) (base := w.heap.size) (ok := fun k_ => (((True ∧ some k_ ≠ (.slice Ao23 t203.length co23 : Value).ownBlock) ∧ some k_ ≠ (.slice Ao28 t209.length co28 : Value).ownBlock) ∧ some k_ ≠ (.slice Ao35 t216.length co35 : Value).ownBlock)) (n := t223.length) (c := co42) ?_).2.2; exact (by refine sqR ?_; exact (Kd.zE (Kd.zv (p := ⟨gb226, 3, none⟩) (Kd.zv (p := ⟨gb226, 2, none⟩) (Kd.zv (p := ⟨gb226, 1, none⟩) (Kd.zv (p := ⟨gb226, 0, none⟩) (Kd.zQ HO225.out BK226.out (by decide)) (fun _ hk => hk.2) (.int .i64 t220)) (fun _ hk => hk.2) (.int .i64 t221)) (fun _ hk => hk.2) (.int .i64 t222)) (fun _ hk => hk.2) (.slice Ao42 t223.length co42)) (fun _ h_ => h_.1)))); (case side2 => exact (Kd.zx HO225.out).2.1); (case side3 => refine (Kd.zx (e := 3) (base := w.heap.size) (ok := fun k_ => (((True ∧ some k_ ≠ (.slice Ao23 t203.length co23 : Value).ownBlock) ∧ some k_ ≠ (.slice Ao35 t216.length co35 : Value).ownBlock) ∧ some k_ ≠ (.slice Ao42 t223.length co42 : Value).ownBlock)) (n := t209.length) (c := co28) ?_).2.2; exact (by refine sqR ?_; exact (Kd.zE (Kd.zv (p := ⟨gb226, 3, none⟩) (Kd.zv (p := ⟨gb226, 2, none⟩) (Kd.zv (p := ⟨gb226, 1, none⟩) (Kd.zv (p := ⟨gb226, 0, none⟩) (Kd.zQ HO211.out BK226.out (by decide)) (fun _ hk => hk.2) (.int .i64 t220)) (fun _ hk => hk.2) (.int .i64 t221)) (fun _ hk => hk.2) (.int .i64 t222)) (fun _ hk => hk.2) (.slice Ao42 t223.length co42)) (fun _ h_ => h_.1)))); (case side4 => exact (Kd.zx HO211.out).2.1); rintro e w44 ⟨rfl, hb⟩; refine ⟨_, rfl, ?_⟩; have n0_ := Aside0.mk (Kd.zJ (by refine sqR ?_; exact (Kd.zE (Kd.zv (p := ⟨gb226, 3, none⟩) (Kd.zv (p := ⟨gb226, 2, none⟩) (Kd.zv (p := ⟨gb226, 1, none⟩) (Kd.zv (p := ⟨gb226, 0, none⟩) (Kd.zQ HO205.out BK226.out (by decide)) (fun _ hk => hk.2) (.int .i64 t220)) (fun _ hk => hk.2) (.int .i64 t221)) (fun _ hk => hk.2) (.int .i64 t222)) (fun _ hk => hk.2) (.slice Ao42 t223.length co42)) (fun _ h_ => h_.1))) hb); have n1_ := Aside0.mk (Kd.zJ (by refine sqR ?_; exact (Kd.zE (Kd.zv (p := ⟨gb226, 3, none⟩) (Kd.zv (p := ⟨gb226, 2, none⟩) (Kd.zv (p := ⟨gb226, 1, none⟩) (Kd.zv (p := ⟨gb226, 0, none⟩) (Kd.zQ HO211.out BK226.out (by decide)) (fun _ hk => hk.2) (.int .i64 t220)) (fun _ hk => hk.2) (.int .i64 t221)) (fun _ hk => hk.2) (.int .i64 t222)) (fun _ hk => hk.2) (.slice Ao42 t223.length co42)) (fun _ h_ => h_.1))) hb); have n2_ := Aside0.mk (Kd.zJ (by refine sqR ?_; exact (Kd.zE (Kd.zv (p := ⟨gb226, 3, none⟩) (Kd.zv (p := ⟨gb226, 2, none⟩) (Kd.zv (p := ⟨gb226, 1, none⟩) (Kd.zv (p := ⟨gb226, 0, none⟩) (Kd.zQ HO218.out BK226.out (by decide)) (fun _ hk => hk.2) (.int .i64 t220)) (fun _ hk => hk.2) (.int .i64 t221)) (fun _ hk => hk.2) (.int .i64 t222)) (fun _ hk => hk.2) (.slice Ao42 t223.length co42)) (fun _ h_ => h_.1))) hb); have n3_ := Aside0.mk (Kd.zJ (by refine sqR ?_; exact (Kd.zE (Kd.zv (p := ⟨gb226, 3, none⟩) (Kd.zv (p := ⟨gb226, 2, none⟩) (Kd.zv (p := ⟨gb226, 1, none⟩) (Kd.zv (p := ⟨gb226, 0, none⟩) (Kd.zQ HO225.out BK226.out (by decide)) (fun _ hk => hk.2) (.int .i64 t220)) (fun _ hk => hk.2) (.int .i64 t221)) (fun _ hk => hk.2) (.int .i64 t222)) (fun _ hk => hk.2) (.slice Ao42 t223.length co42)) (fun _ h_ => h_.1))) hb); have n4_ := Aside0.mk (zh (g := gb198) (o := .cells #[.int .i64 a0_0, .int .i64 a0_1, .int .i64 a0_2, .slice A0_3 l0_3.length c0_3] 24 (0, 0)) (by refine sqK ?_; refine zw ?_ NB198_226.out _; refine sqK ?_; refine zw ?_ NB198_226.out _; refine sqK ?_; refine zw ?_ NB198_226.out _; refine sqK ?_; refine zw ?_ NB198_226.out _; refine sqK ?_; exact BK198.out) hb); have n5_ := Aside0.mk (zh (g := gb212) (o := .cells #[.int .i64 t206, .int .i64 t207, .int .i64 t208, .slice Ao28 t209.length co28] 27 (0, 0)) (by refine sqK ?_; refine zw ?_ NB212_226.out _; refine sqK ?_; refine zw ?_ NB212_226.out _; refine sqK ?_; refine zw ?_ NB212_226.out _; refine sqK ?_; refine zw ?_ NB212_226.out _; refine sqK ?_; exact BK212.out) hb); have n6_ := Aside0.mk (zh (g := gb219) (o := .cells #[.int .i64 t213, .int .i64 t214, .int .i64 t215, .slice Ao35 t216.length co35] 27 (0, 0)) (by refine sqK ?_; refine zw ?_ NB219_226.out _; refine sqK ?_; refine zw ?_ NB219_226.out _; refine sqK ?_; refine zw ?_ NB219_226.out _; refine sqK ?_; refine zw ?_ NB219_226.out _; refine sqK ?_; exact BK219.out) hb); have n7_ := Aside0.mk (zh (g := gb226) (o := .cells #[.int .i64 t220, .int .i64 t221, .int .i64 t222, .slice Ao42 t223.length co42] 27 (0, 0)) (by refine sqK ?_; refine zD (cs := #[.int .i64 t220, .int .i64 t221, .int .i64 t222, .slice none 0 0]) ?_ 3 _ rfl; refine sqK ?_; refine zD (cs := #[.int .i64 t220, .int .i64 t221, .int .i64 0, .slice none 0 0]) ?_ 2 _ rfl; refine sqK ?_; refine zD (cs := #[.int .i64 t220, .int .i64 0, .int .i64 0, .slice none 0 0]) ?_ 1 _ rfl; refine sqK ?_; refine zD (cs := #[.int .i64 0, .int .i64 0, .int .i64 0, .slice none 0 0]) ?_ 0 _ rfl; refine sqK ?_; exact BK226.out) hb); have n8_ := Aside0.mk (zj sqB hb); clear HO205; clear HO211; clear HO218; clear HO225; clear BK198; clear BK212; clear BK219; clear BK226; clear HB; have HO205 := n0_; have HO211 := n1_; have HO218 := n2_; have HO225 := n3_; have BK198 := n4_; have BK212 := n5_; have BK219 := n6_; have BK226 := n7_; have HB := n8_; clear n0_ n1_ n2_ n3_ n4_ n5_ n6_ n7_ n8_; (try clear hb); (try clear hb2); (try clear hk); (try clear hi)))
    have n0_ := Aside0.mk (Kd.q8 HO205.out)
    have n1_ := Aside0.mk (Kd.q8 HO211.out)
    have n2_ := Aside0.mk (Kd.q8 HO218.out)
    have n3_ := Aside0.mk (Kd.q8 HO225.out)
    have n4_ := Aside0.mk (qm BK198.out)
    have n5_ := Aside0.mk (qm BK212.out)
    have n6_ := Aside0.mk (qm BK219.out)
    have n7_ := Aside0.mk (qm BK226.out)
    have n8_ := Aside0.mk (zS HB.out)
    clear HO205 HO211 HO218 HO225 BK198 BK212 BK219 BK226 HB; have HO205 := n0_; have HO211 := n1_; have HO218 := n2_; have HO225 := n3_; have BK198 := n4_; have BK212 := n5_; have BK219 := n6_; have BK226 := n7_; have HB := n8_; clear n0_ n1_ n2_ n3_ n4_ n5_ n6_ n7_ n8_
    refine jA (n := 5) (S := fun w' => w'.cell? ⟨gb219, 0, none⟩ = some (.int .i64 t213) ∧ w'.cell? ⟨gb219, 1, none⟩ = some (.int .i64 t214) ∧ w'.cell? ⟨gb219, 2, none⟩ = some (.int .i64 t215) ∧ w'.cell? ⟨gb219, 3, none⟩ = some (.slice Ao35 t216.length co35) ∧ w'.cell? ⟨gb198, 0, none⟩ = some (.int .i64 a0_0) ∧ w'.cell? ⟨gb198, 1, none⟩ = some (.int .i64 a0_1) ∧ w'.cell? ⟨gb198, 2, none⟩ = some (.int .i64 a0_2) ∧ w'.cell? ⟨gb198, 3, none⟩ = some (.slice A0_3 l0_3.length c0_3)) (ds := []) #[false, false, false, false, false] (by kernel_rfl) rfl rfl ⟨(zb BK219.out 0).trans rfl, (zb BK219.out 1).trans rfl, (zb BK219.out 2).trans rfl, (zb BK219.out 3).trans rfl, (zb BK198.out 0).trans rfl, (zb BK198.out 1).trans rfl, (zb BK198.out 2).trans rfl, (zb BK198.out 3).trans rfl⟩ (fun hHeld => ?_)
    generalize w44.drew = w45 at HO205 HO211 HO218 HO225 BK198 BK212 BK219 BK226 HB hHeld ⊢
    refine qe (i := 0) (N := some 27) (v := ?_) (a' := ?_) #[true, false, false, false, false] rfl rfl (by kernel_rfl) (fun _ _ _ h => h) (Or.inl ⟨by rfl, ?_⟩) hHeld ?_ ?_
    rotate_left
    ·rintro w' ⟨s0, s1, s2, s3, s4, s5, s6, s7⟩; go_simp; with_reducible rfl
    rotate_left
    ·simp only [Act.put, List.setIfInBounds_toArray, List.set_cons_zero, List.set_cons_succ, zd, ze]; rfl
    refine qe (i := 1) (N := some 28) (v := ?_) (a' := ?_) #[true, true, false, false, false] rfl rfl (by kernel_rfl) (fun _ _ _ h => h) (Or.inl ⟨by rfl, ?_⟩) hHeld ?_ ?_
    rotate_left
    ·rintro w' ⟨s0, s1, s2, s3, s4, s5, s6, s7⟩; go_simp; with_reducible rfl
    rotate_left
    ·simp only [Act.put, List.setIfInBounds_toArray, List.set_cons_zero, List.set_cons_succ, zd, ze]; rfl
    refine yR (i := 2) (N := some 29) #[true, true, true, false, false] rfl rfl (by kernel_rfl) (by decide) (fun K hK => ?_)
    refine y6 Try.func13 (by kernel_rfl) rfl #[.agg #[.int .i64 a0_0, .int .i64 a0_1, .int .i64 a0_2, .slice A0_3 l0_3.length c0_3]] (by rfl) rfl rfl sqM ?_
    with_reducible refine (zF.calls k a0_0 a0_1 a0_2 _ _ l0_3 t228 t229 t230 t231 _ ?side1 ?side2 A13.out).mono ?_
    (case side1 => exact sqC (Kd.qc HR0_3.out HB.out))
    (case side2 => exact HC0_3.out)
    rintro e w46 ⟨v232, rfl, ho0, hb⟩
    refine ⟨_, rfl, ?_⟩
    have n0_ := Aside0.mk (Kd.qv (sqR HO205.out) (Kd.qE ho0) hb)
    have n1_ := Aside0.mk (Kd.qv (sqR HO211.out) (Kd.qE ho0) hb)
    have n2_ := Aside0.mk (Kd.qv (sqR HO218.out) (Kd.qE ho0) hb)
    have n3_ := Aside0.mk (Kd.qv (sqR HO225.out) (Kd.qE ho0) hb)
    have n4_ := Aside0.mk (Kd.qx (Kd.qR (Kd.qR (Kd.qR (Kd.qR ho0 (Kd.jH (sqR HO205.out))) (Kd.jH (sqR HO211.out))) (Kd.jH (sqR HO218.out))) (Kd.jH (sqR HO225.out))) (zO sqB))
    have n5_ := Aside0.mk (zh (g := gb198) (o := .cells #[.int .i64 a0_0, .int .i64 a0_1, .int .i64 a0_2, .slice A0_3 l0_3.length c0_3] 24 (0, 0)) (sqK BK198.out) hb)
    have n6_ := Aside0.mk (zh (g := gb212) (o := .cells #[.int .i64 t206, .int .i64 t207, .int .i64 t208, .slice Ao28 t209.length co28] 27 (0, 0)) (sqK BK212.out) hb)
    have n7_ := Aside0.mk (zh (g := gb219) (o := .cells #[.int .i64 t213, .int .i64 t214, .int .i64 t215, .slice Ao35 t216.length co35] 27 (0, 0)) (sqK BK219.out) hb)
    have n8_ := Aside0.mk (zh (g := gb226) (o := .cells #[.int .i64 t220, .int .i64 t221, .int .i64 t222, .slice Ao42 t223.length co42] 27 (0, 0)) (sqK BK226.out) hb)
    have n9_ := Aside0.mk (zj sqB hb)
    clear HO205 HO211 HO218 HO225 BK198 BK212 BK219 BK226 HB; have HO205 := n0_; have HO211 := n1_; have HO218 := n2_; have HO225 := n3_; have HO233 := n4_; have BK198 := n5_; have BK212 := n6_; have BK219 := n7_; have BK226 := n8_; have HB := n9_; clear n0_ n1_ n2_ n3_ n4_ n5_ n6_ n7_ n8_ n9_; (try clear hb); (try clear hb2); (try clear hk); (try clear hi); (try clear ho0)
    obtain ⟨Ao47, co47, eo47⟩ := Kd.qb HO233.out
    (first | subst eo47 | (injection eo47 with f1_ f2_ f3_; have f4_ := f1_.symm; have f5_ := f3_.symm; clear f1_ f2_ f3_; subst f4_; subst f5_))
    refine hK.out _ _ ⟨(zb BK219.out 0).trans rfl, (zb BK219.out 1).trans rfl, (zb BK219.out 2).trans rfl, (zb BK219.out 3).trans rfl, (zb BK198.out 0).trans rfl, (zb BK198.out 1).trans rfl, (zb BK198.out 2).trans rfl, (zb BK198.out 3).trans rfl⟩ (fun hHeld => ?_)
    clear hK K
    refine vS (a' := ?_) ?_ ?_
    rotate_left
    ·show Act.put _ (some 29) _ = _; simp only [Act.put, List.setIfInBounds_toArray, List.set_cons_zero, List.set_cons_succ, zd, ze]; rfl
    refine yR (i := 3) (N := some 30) #[true, true, true, true, false] rfl rfl (by kernel_rfl) (by decide) (fun K hK => ?_)
    refine y6 Try.func15 (by kernel_rfl) rfl #[.agg #[.int .i64 t213, .int .i64 t214, .int .i64 t215, .slice Ao35 t216.length co35], .agg #[.int .i64 t228, .int .i64 t229, .int .i64 t230, .slice Ao47 t231.length co47]] (by rfl) rfl rfl sqM ?_
    with_reducible refine (zu.calls k t213 t214 t215 _ _ t216 t228 t229 t230 _ _ t231 true _ ?side1 ?side2 ?side3 ?side4 A14.out).mono ?_
    (case side1 => exact sqC (Kd.zx HO218.out).2.2)
    (case side2 => exact (Kd.zx HO218.out).2.1)
    (case side3 => exact sqC (Kd.zx HO233.out).2.2)
    (case side4 => exact (Kd.zx HO233.out).2.1)
    rintro e w48 ⟨rfl, hb⟩
    refine ⟨_, rfl, ?_⟩
    have n0_ := Aside0.mk (Kd.zJ (sqR HO205.out) hb)
    have n1_ := Aside0.mk (Kd.zJ (sqR HO211.out) hb)
    have n2_ := Aside0.mk (Kd.zJ (sqR HO218.out) hb)
    have n3_ := Aside0.mk (Kd.zJ (sqR HO225.out) hb)
    have n4_ := Aside0.mk (Kd.zJ (sqR HO233.out) hb)
    have n5_ := Aside0.mk (zh (g := gb198) (o := .cells #[.int .i64 a0_0, .int .i64 a0_1, .int .i64 a0_2, .slice A0_3 l0_3.length c0_3] 24 (0, 0)) (sqK BK198.out) hb)
    have n6_ := Aside0.mk (zh (g := gb212) (o := .cells #[.int .i64 t206, .int .i64 t207, .int .i64 t208, .slice Ao28 t209.length co28] 27 (0, 0)) (sqK BK212.out) hb)
    have n7_ := Aside0.mk (zh (g := gb219) (o := .cells #[.int .i64 t213, .int .i64 t214, .int .i64 t215, .slice Ao35 t216.length co35] 27 (0, 0)) (sqK BK219.out) hb)
    have n8_ := Aside0.mk (zh (g := gb226) (o := .cells #[.int .i64 t220, .int .i64 t221, .int .i64 t222, .slice Ao42 t223.length co42] 27 (0, 0)) (sqK BK226.out) hb)
    have n9_ := Aside0.mk (zj sqB hb)
    clear HO205 HO211 HO218 HO225 HO233 BK198 BK212 BK219 BK226 HB; have HO205 := n0_; have HO211 := n1_; have HO218 := n2_; have HO225 := n3_; have HO233 := n4_; have BK198 := n5_; have BK212 := n6_; have BK219 := n7_; have BK226 := n8_; have HB := n9_; clear n0_ n1_ n2_ n3_ n4_ n5_ n6_ n7_ n8_ n9_; (try clear hb); (try clear hb2); (try clear hk); (try clear hi)
    refine hK.out _ _ ⟨(zb BK219.out 0).trans rfl, (zb BK219.out 1).trans rfl, (zb BK219.out 2).trans rfl, (zb BK219.out 3).trans rfl, (zb BK198.out 0).trans rfl, (zb BK198.out 1).trans rfl, (zb BK198.out 2).trans rfl, (zb BK198.out 3).trans rfl⟩ (fun hHeld => ?_)
    clear hK K
    refine vS (a' := ?_) ?_ ?_
    rotate_left
    ·show Act.put _ (some 30) _ = _; simp only [Act.put, List.setIfInBounds_toArray, List.set_cons_zero, List.set_cons_succ, zd, ze]; rfl
    refine zt (i := 4) (N := some 31) (v := ?_) (a' := ?_) #[true, true, true, true, true] rfl rfl (by kernel_rfl) (fun _ _ _ h => h) (Or.inl ⟨by rfl, ?_⟩) ?_ ?_
    rotate_left
    ·intro w'; go_simp; with_reducible rfl
    rotate_left
    ·simp only [Act.put, List.setIfInBounds_toArray, List.set_cons_zero, List.set_cons_succ, zd, ze]; rfl
    refine vl (by kernel_rfl) ?_
    have hcz49_0 : w48.cell? ⟨gb219, 0, none⟩ = some (.int .i64 t213) := (zb BK219.out 0).trans rfl
    have hcz49_1 : w48.cell? ⟨gb219, 1, none⟩ = some (.int .i64 t214) := (zb BK219.out 1).trans rfl
    have hcz49_2 : w48.cell? ⟨gb219, 2, none⟩ = some (.int .i64 t215) := (zb BK219.out 2).trans rfl
    have hcz49_3 : w48.cell? ⟨gb219, 3, none⟩ = some (.slice Ao35 t216.length co35) := (zb BK219.out 3).trans rfl
    have hfz49_0 := za BK219.out 0; have hfz49_1 := za BK219.out 1; have hfz49_2 := za BK219.out 2; have hfz49_3 := za BK219.out 3
    go_upto_region 14 with (first | ((with_reducible refine zo (f := 26) rfl ?_); refine zT (some 34) rfl rfl Try.func26 (by kernel_rfl) rfl #[.agg #[.int .i64 t213, .int .i64 t214, .int .i64 t215, .slice Ao35 t216.length co35], .int .i64 1] rfl sqM ?_; (with_reducible refine (zK.calls k t213 t214 t215 (fun k_ => some k_ = (.slice Ao35 t216.length co35 : Value).ownBlock) (.slice Ao35 t216.length co35) t216 1 t235 t236 w _ ?side1 ?side2 A16.out).mono ?_); (case side1 => repeat (first | (with_reducible first | exact HB.out | apply z6 | apply zZ | apply zS | refine zM ?_ GE198.out | refine zM ?_ GE212.out | refine zM ?_ GE219.out | refine zM ?_ GE226.out) | exact HB.out)); (case side2 => exact Kd.jP rfl HO218.out); rintro e w50 ⟨rfl, hy0, hb, hkp⟩; refine ⟨_, rfl, ?_⟩; have n0_ := Aside0.mk (qD (sqK BK198.out) hkp (fun hs_ => (fun e_ => (Kd.qS HO218.out BK198.out (by decide)) e_) hs_)); have n1_ := Aside0.mk (Kd.zE (ok' := fun k_ => some k_ ≠ (.slice Ao28 t209.length co28 : Value).ownBlock ∧ some k_ ≠ (.slice Ao35 t216.length co35 : Value).ownBlock ∧ some k_ ≠ (.slice Ao42 t223.length co42 : Value).ownBlock ∧ some k_ ≠ (.slice Ao47 t231.length co47 : Value).ownBlock) (Kd.vx (HO205.out) hkp (fun k_ hk_ hs_ => by first | exact hk_.1.1.2 hs_ | (have e_ : some k_ = _ := hs_; simp only [e_, ne_eq, not_true_eq_false, and_false, false_and] at hk_))) (fun k_ hk_ => by first | exact ⟨hk_.1.1.1.1.2, hk_.1.1.1.2, hk_.1.1.2, hk_.1.2⟩ | (refine ⟨?_, ?_, ?_, ?_⟩ <;> intro e_ <;> simp only [e_, ne_eq, not_true_eq_false, and_false, false_and] at hk_))); have n2_ := Aside0.mk (Kd.zE (ok' := fun k_ => some k_ ≠ (.slice Ao23 t203.length co23 : Value).ownBlock ∧ some k_ ≠ (.slice Ao35 t216.length co35 : Value).ownBlock ∧ some k_ ≠ (.slice Ao42 t223.length co42 : Value).ownBlock ∧ some k_ ≠ (.slice Ao47 t231.length co47 : Value).ownBlock) (Kd.vx (HO211.out) hkp (fun k_ hk_ hs_ => by first | exact hk_.1.1.2 hs_ | (have e_ : some k_ = _ := hs_; simp only [e_, ne_eq, not_true_eq_false, and_false, false_and] at hk_))) (fun k_ hk_ => by first | exact ⟨hk_.1.1.1.1.2, hk_.1.1.1.2, hk_.1.1.2, hk_.1.2⟩ | (refine ⟨?_, ?_, ?_, ?_⟩ <;> intro e_ <;> simp only [e_, ne_eq, not_true_eq_false, and_false, false_and] at hk_))); have n3_ := Aside0.mk (qD (sqK BK212.out) hkp (fun hs_ => (fun e_ => (Kd.qS HO218.out BK212.out (by decide)) e_) hs_)); have n4_ := Aside0.mk (Kd.yH rfl hy0 (fun k_ e_ => HO218.out.1 k_ e_)); have n5_ := Aside0.mk (qD (sqK BK219.out) hkp (fun hs_ => (fun e_ => (Kd.qS HO218.out BK219.out (by decide)) e_) hs_)); have n6_ := Aside0.mk (Kd.zE (ok' := fun k_ => some k_ ≠ (.slice Ao23 t203.length co23 : Value).ownBlock ∧ some k_ ≠ (.slice Ao28 t209.length co28 : Value).ownBlock ∧ some k_ ≠ (.slice Ao35 t216.length co35 : Value).ownBlock ∧ some k_ ≠ (.slice Ao47 t231.length co47 : Value).ownBlock) (Kd.vx (HO225.out) hkp (fun k_ hk_ hs_ => by first | exact hk_.1.2 hs_ | (have e_ : some k_ = _ := hs_; simp only [e_, ne_eq, not_true_eq_false, and_false, false_and] at hk_))) (fun k_ hk_ => by first | exact ⟨hk_.1.1.1.1.2, hk_.1.1.1.2, hk_.1.1.2, hk_.1.2⟩ | (refine ⟨?_, ?_, ?_, ?_⟩ <;> intro e_ <;> simp only [e_, ne_eq, not_true_eq_false, and_false, false_and] at hk_))); have n7_ := Aside0.mk (qD (sqK BK226.out) hkp (fun hs_ => (fun e_ => (Kd.qS HO218.out BK226.out (by decide)) e_) hs_)); have n8_ := Aside0.mk (Kd.zE (ok' := fun k_ => some k_ ≠ (.slice Ao23 t203.length co23 : Value).ownBlock ∧ some k_ ≠ (.slice Ao28 t209.length co28 : Value).ownBlock ∧ some k_ ≠ (.slice Ao35 t216.length co35 : Value).ownBlock ∧ some k_ ≠ (.slice Ao42 t223.length co42 : Value).ownBlock) (Kd.vx (HO233.out) hkp (fun k_ hk_ hs_ => by first | exact hk_.1.2 hs_ | (have e_ : some k_ = _ := hs_; simp only [e_, ne_eq, not_true_eq_false, and_false, false_and] at hk_))) (fun k_ hk_ => by first | exact ⟨hk_.1.1.1.1.2, hk_.1.1.1.2, hk_.1.1.2, hk_.1.2⟩ | (refine ⟨?_, ?_, ?_, ?_⟩ <;> intro e_ <;> simp only [e_, ne_eq, not_true_eq_false, and_false, false_and] at hk_))); have n9_ := Aside0.mk (hb); clear BK198; clear HO205; clear HO211; clear BK212; clear HO218; clear BK219; clear HO225; clear BK226; clear HO233; clear HB; have BK198 := n0_; have HO205 := n1_; have HO211 := n2_; have BK212 := n3_; have HO218 := n4_; have BK219 := n5_; have HO225 := n6_; have BK226 := n7_; have HO233 := n8_; have HB := n9_; clear n0_ n1_ n2_ n3_ n4_ n5_ n6_ n7_ n8_ n9_; (try clear hb); (try clear hkp); (try clear hy0)))
    (try simp only [Act.put, List.setIfInBounds_toArray, List.set_cons_zero, List.set_cons_succ])
    go_cut [42] (fun v42 wc => ∃ (kq : Nat) (x42_16 : Bool), v42 = .bool x42_16 ∧ Aside0 (zg.j0 kq x42_16 a0_0 a0_1 a0_2 l0_3 t206 t207 t208 t209 t220 t221 t222 t223 = some r) ∧ Aside0 (kq ≤ k) ∧ Aside0 (Kd.R (Kd.int .i64) 3 wc w.heap.size (fun k_ => some k_ ≠ ((.slice Ao35 t216.length co35) : Value).ownBlock ∧ some k_ ≠ ((.slice Ao42 t223.length co42) : Value).ownBlock) (.slice Ao28 t209.length co28) t209) ∧ Aside0 (Kd.R (Kd.int .i64) 3 wc w.heap.size (fun k_ => some k_ ≠ ((.slice Ao28 t209.length co28) : Value).ownBlock ∧ some k_ ≠ ((.slice Ao42 t223.length co42) : Value).ownBlock) (.slice Ao35 t216.length co35) t236) ∧ Aside0 (Kd.R (Kd.int .i64) 3 wc w.heap.size (fun k_ => some k_ ≠ ((.slice Ao28 t209.length co28) : Value).ownBlock ∧ some k_ ≠ ((.slice Ao35 t216.length co35) : Value).ownBlock) (.slice Ao42 t223.length co42) t223) ∧ Aside0 (wc.heap[gb198]? = some (.cells #[.int .i64 a0_0, .int .i64 a0_1, .int .i64 a0_2, (.slice A0_3 l0_3.length c0_3)] 24 (0, 0))) ∧ Aside0 (wc.heap[gb212]? = some (.cells #[.int .i64 t206, .int .i64 t207, .int .i64 t208, (.slice Ao28 t209.length co28)] 27 (0, 0))) ∧ Aside0 (wc.heap[gb219]? = some (.cells #[.int .i64 t213, .int .i64 t214, .int .i64 t215, (.slice Ao35 t216.length co35)] 27 (0, 0))) ∧ Aside0 (wc.heap[gb226]? = some (.cells #[.int .i64 t220, .int .i64 t221, .int .i64 t222, (.slice Ao42 t223.length co42)] 27 (0, 0))) ∧ Aside0 (Below w.heap.size w wc))
    case first =>
     have H := HC17.out
     clear HC17
     by_cases c51 : t235 < 0
     ·rw [if_pos c51] at H
      have c51b0 : decide (t235 < 0) = true := decide_eq_true c51
      clear c51
      (first | rw [c51b0] | (simp only [zd, ze]; rw [c51b0]) | skip)
      have H' := Aside0.mk H
      clear H
      go_wp2
      go_meet
      case rel => exact ⟨_, (true), (sqD), H', ⟨by first | omega | exact Nat.le_refl _⟩, ⟨by refine sqR ?_; exact Kd.zE HO211.out (fun _ hk => by first | exact ⟨hk.2.1, hk.2.2.1⟩ | (refine ⟨?_, ?_⟩ <;> intro e_ <;> simp only [e_, ne_eq, not_true_eq_false, and_false, false_and] at hk))⟩, ⟨by refine sqR ?_; exact Kd.zE HO218.out (fun _ hk => by first | exact ⟨hk.1.1.2, hk.1.2⟩ | (refine ⟨?_, ?_⟩ <;> intro e_ <;> simp only [e_, ne_eq, not_true_eq_false, and_false, false_and] at hk))⟩, ⟨by refine sqR ?_; exact Kd.zE HO225.out (fun _ hk => by first | exact ⟨hk.2.1, hk.2.2.1⟩ | (refine ⟨?_, ?_⟩ <;> intro e_ <;> simp only [e_, ne_eq, not_true_eq_false, and_false, false_and] at hk))⟩, ⟨sqK BK198.out⟩, ⟨sqK BK212.out⟩, ⟨sqK BK219.out⟩, ⟨sqK BK226.out⟩, ⟨sqB⟩⟩
     ·rw [if_neg c51] at H
      have c51b0 : decide (t235 < 0) = false := decide_eq_false c51
      clear c51
      (first | rw [c51b0] | (simp only [zd, ze]; rw [c51b0]) | skip)
      replace H := Option.bind_eq_some_iff.mp H
      obtain ⟨t237, A520, H⟩ := H
      replace H : (zg.j0 k (!t237) a0_0 a0_1 a0_2 l0_3 t206 t207 t208 t209 t220 t221 t222 t223) = some r := H
      have A52 := Aside0.mk A520
      clear A520
      have H' := Aside0.mk H
      clear H
      have hnb53 := NB226_198.out
      have hnc53 := NB198_226.out
      have hnb54 := NB226_212.out
      have hnc54 := NB212_226.out
      have hnb55 := NB226_219.out
      have hnc55 := NB219_226.out
      have hcz56_0 : w50.cell? ⟨gb226, 0, none⟩ = some (.int .i64 t220) := (zb BK226.out 0).trans rfl
      have hcz56_1 : w50.cell? ⟨gb226, 1, none⟩ = some (.int .i64 t221) := (zb BK226.out 1).trans rfl
      have hcz56_2 : w50.cell? ⟨gb226, 2, none⟩ = some (.int .i64 t222) := (zb BK226.out 2).trans rfl
      have hcz56_3 : w50.cell? ⟨gb226, 3, none⟩ = some (.slice Ao42 t223.length co42) := (zb BK226.out 3).trans rfl
      have hfz56_0 := za BK226.out 0; have hfz56_1 := za BK226.out 1; have hfz56_2 := za BK226.out 2; have hfz56_3 := za BK226.out 3
      have hnb57 := NB212_198.out
      have hnc57 := NB198_212.out
      have hnb58 := NB212_219.out
      have hnc58 := NB219_212.out
      have hcz59_0 : w50.cell? ⟨gb212, 0, none⟩ = some (.int .i64 t206) := (zb BK212.out 0).trans rfl
      have hcz59_1 : w50.cell? ⟨gb212, 1, none⟩ = some (.int .i64 t207) := (zb BK212.out 1).trans rfl
      have hcz59_2 : w50.cell? ⟨gb212, 2, none⟩ = some (.int .i64 t208) := (zb BK212.out 2).trans rfl
      have hcz59_3 : w50.cell? ⟨gb212, 3, none⟩ = some (.slice Ao28 t209.length co28) := (zb BK212.out 3).trans rfl
      have hfz59_0 := za BK212.out 0; have hfz59_1 := za BK212.out 1; have hfz59_2 := za BK212.out 2; have hfz59_3 := za BK212.out 3
      go_wp2_with (first | (go_at_call 15; (try simp only [zd, ze]); (with_reducible refine (zu.calls k t220 t221 t222 _ _ t223 t206 t207 t208 _ _ t209 t237 _ ?side1 ?side2 ?side3 ?side4 A52.out).mono ?_); (case side1 => exact sqC (Kd.zx HO225.out).2.2); (case side2 => exact (Kd.zx HO225.out).2.1); (case side3 => exact sqC (Kd.zx HO211.out).2.2); (case side4 => exact (Kd.zx HO211.out).2.1); rintro e w60 ⟨rfl, hb⟩; have n0_ := Aside0.mk (Kd.zJ (sqR HO205.out) hb); have n1_ := Aside0.mk (Kd.zJ (sqR HO211.out) hb); have n2_ := Aside0.mk (Kd.zJ (sqR HO218.out) hb); have n3_ := Aside0.mk (Kd.zJ (sqR HO225.out) hb); have n4_ := Aside0.mk (Kd.zJ (sqR HO233.out) hb); have n5_ := Aside0.mk (zh (g := gb198) (o := .cells #[.int .i64 a0_0, .int .i64 a0_1, .int .i64 a0_2, .slice A0_3 l0_3.length c0_3] 24 (0, 0)) (sqK BK198.out) hb); have n6_ := Aside0.mk (zh (g := gb212) (o := .cells #[.int .i64 t206, .int .i64 t207, .int .i64 t208, .slice Ao28 t209.length co28] 27 (0, 0)) (sqK BK212.out) hb); have n7_ := Aside0.mk (zh (g := gb219) (o := .cells #[.int .i64 t213, .int .i64 t214, .int .i64 t215, .slice Ao35 t216.length co35] 27 (0, 0)) (sqK BK219.out) hb); have n8_ := Aside0.mk (zh (g := gb226) (o := .cells #[.int .i64 t220, .int .i64 t221, .int .i64 t222, .slice Ao42 t223.length co42] 27 (0, 0)) (sqK BK226.out) hb); have n9_ := Aside0.mk (zj sqB hb); clear HO205; clear HO211; clear HO218; clear HO225; clear HO233; clear BK198; clear BK212; clear BK219; clear BK226; clear HB; have HO205 := n0_; have HO211 := n1_; have HO218 := n2_; have HO225 := n3_; have HO233 := n4_; have BK198 := n5_; have BK212 := n6_; have BK219 := n7_; have BK226 := n8_; have HB := n9_; clear n0_ n1_ n2_ n3_ n4_ n5_ n6_ n7_ n8_ n9_; (try clear hb); (try clear hb2); (try clear hk); (try clear hi)))
      go_meet
      case rel => exact ⟨_, (!t237), (sqD), H', ⟨by first | omega | exact Nat.le_refl _⟩, ⟨by refine sqR ?_; exact Kd.zE HO211.out (fun _ hk => by first | exact ⟨hk.2.1, hk.2.2.1⟩ | (refine ⟨?_, ?_⟩ <;> intro e_ <;> simp only [e_, ne_eq, not_true_eq_false, and_false, false_and] at hk))⟩, ⟨by refine sqR ?_; exact Kd.zE HO218.out (fun _ hk => by first | exact ⟨hk.1.1.2, hk.1.2⟩ | (refine ⟨?_, ?_⟩ <;> intro e_ <;> simp only [e_, ne_eq, not_true_eq_false, and_false, false_and] at hk))⟩, ⟨by refine sqR ?_; exact Kd.zE HO225.out (fun _ hk => by first | exact ⟨hk.2.1, hk.2.2.1⟩ | (refine ⟨?_, ?_⟩ <;> intro e_ <;> simp only [e_, ne_eq, not_true_eq_false, and_false, false_and] at hk))⟩, ⟨sqK BK198.out⟩, ⟨sqK BK212.out⟩, ⟨sqK BK219.out⟩, ⟨sqK BK226.out⟩, ⟨sqB⟩⟩
    case rest =>
     clear HC17
     try clear c1
     try clear c2
     try clear p2
     try clear c3
     try clear c3b0
     try clear c4
     try clear c5
     try clear c9
     try clear c11
     try clear c12
     try clear c13
     try clear c15
     try clear c26
     try clear c32
     try clear c33
     try clear c38
     try clear c39
     try clear c40
     try clear c51
     try clear c51b0
     try clear c53
     try clear c54
     try clear c55
     try clear c57
     try clear c58
     try clear hcz19_0
     try clear hcz19_1
     try clear hcz19_2
     try clear hcz19_3
     try clear hcz21_0
     try clear hcz21_1
     try clear hcz21_2
     try clear hcz21_3
     try clear hcz27_0
     try clear hcz27_1
     try clear hcz27_2
     try clear hcz27_3
     try clear hcz29_0
     try clear hcz29_1
     try clear hcz29_2
     try clear hcz29_3
     try clear hcz34_0
     try clear hcz34_1
     try clear hcz34_2
     try clear hcz34_3
     try clear hcz41_0
     try clear hcz41_1
     try clear hcz41_2
     try clear hcz41_3
     try clear hcz43_0
     try clear hcz43_1
     try clear hcz43_2
     try clear hcz43_3
     try clear hcz49_0
     try clear hcz49_1
     try clear hcz49_2
     try clear hcz49_3
     try clear hcz56_0
     try clear hcz56_1
     try clear hcz56_2
     try clear hcz56_3
     try clear hcz59_0
     try clear hcz59_1
     try clear hcz59_2
     try clear hcz59_3
     try clear hcz5_0
     try clear hcz5_1
     try clear hcz5_2
     try clear hcz5_3
     try clear hfz19_0
     try clear hfz19_1
     try clear hfz19_2
     try clear hfz19_3
     try clear hfz21_0
     try clear hfz21_1
     try clear hfz21_2
     try clear hfz21_3
     try clear hfz27_0
     try clear hfz27_1
     try clear hfz27_2
     try clear hfz27_3
     try clear hfz29_0
     try clear hfz29_1
     try clear hfz29_2
     try clear hfz29_3
     try clear hfz34_0
     try clear hfz34_1
     try clear hfz34_2
     try clear hfz34_3
     try clear hfz41_0
     try clear hfz41_1
     try clear hfz41_2
     try clear hfz41_3
     try clear hfz43_0
     try clear hfz43_1
     try clear hfz43_2
     try clear hfz43_3
     try clear hfz49_0
     try clear hfz49_1
     try clear hfz49_2
     try clear hfz49_3
     try clear hfz56_0
     try clear hfz56_1
     try clear hfz56_2
     try clear hfz56_3
     try clear hfz59_0
     try clear hfz59_1
     try clear hfz59_2
     try clear hfz59_3
     try clear hfz5_0
     try clear hfz5_1
     try clear hfz5_2
     try clear hfz5_3
     obtain ⟨kq, x42_16, rfl, HA, HJ16, HO_213003, HO_220003, HO_227003, BK198, BK212, BK219, BK226, HB⟩ := hcut
     have hl220003_16 := (Kd.zx HO_220003.out).1
     rw [hl220003_16] at HO_220003
     (try simp only [hl220003_16])
     (try simp only [hl220003_16] at BK198)
     (try simp only [hl220003_16] at BK212)
     (try simp only [hl220003_16] at BK219)
     (try simp only [hl220003_16] at BK226)
     (try simp only [hl220003_16] at HO_213003)
     (try simp only [hl220003_16] at HO_227003)
     cases kq with
     | zero => exact absurd HA.out (by simp [zg.j0])
     | succ kj16 =>
      have H := HA.out
      clear HA
      simp only [zg.j0] at H
      by_cases c61 : x42_16 = true
      ·subst c61
       have H1 : (none) = some r := by rw [if_pos rfl] at H; exact H
       clear H
       have H := H1
       clear H1
       exact absurd H (by simp)
      ·replace c61 := Bool.eq_false_iff.mpr c61
       subst c61
       have H1 : ((zK.f kj16 t220 t221 t222 t223 1).bind fun bt238 => ((zR.f kj16 t220 t221 t222 bt238.2 1).bind fun t240 => (if t240 < 0 then (none) else (if t240 = bt238.1 then ((zF.f kj16 a0_0 a0_1 a0_2 l0_3).bind fun bt241 => ((zL.f kj16 bt241.1 bt241.2.1 bt241.2.2.1 bt241.2.2.2).bind fun bt247 => ((zu.f kj16 bt247.1 bt247.2.1 bt247.2.2.1 bt247.2.2.2 t206 t207 t208 t209).bind fun t254 => (if t254 = true then ((zR.f kj16 t220 t221 t222 bt238.2 1).bind fun t255 => (if t255 < 0 then (none) else (if t255 = bt238.1 then (some true) else (none)))) else (none))))) else (none))))) = some r := by rw [if_neg (show ¬ (false = true) by decide)] at H; exact H
       clear H
       have H := H1
       clear H1
       replace H := Option.bind_eq_some_iff.mp H
       obtain ⟨⟨t238, t239⟩, A620, H⟩ := H
       replace H : ((zR.f kj16 t220 t221 t222 t239 1).bind fun t240 => (if t240 < 0 then (none) else (if t240 = t238 then ((zF.f kj16 a0_0 a0_1 a0_2 l0_3).bind fun bt241 => ((zL.f kj16 bt241.1 bt241.2.1 bt241.2.2.1 bt241.2.2.2).bind fun bt247 => ((zu.f kj16 bt247.1 bt247.2.1 bt247.2.2.1 bt247.2.2.2 t206 t207 t208 t209).bind fun t254 => (if t254 = true then ((zR.f kj16 t220 t221 t222 t239 1).bind fun t255 => (if t255 < 0 then (none) else (if t255 = t238 then (some true) else (none)))) else (none))))) else (none)))) = some r := H
       have A62 := Aside0.mk A620
       clear A620
       replace H := Option.bind_eq_some_iff.mp H
       obtain ⟨t240, A630, H⟩ := H
       replace H : (if t240 < 0 then (none) else (if t240 = t238 then ((zF.f kj16 a0_0 a0_1 a0_2 l0_3).bind fun bt241 => ((zL.f kj16 bt241.1 bt241.2.1 bt241.2.2.1 bt241.2.2.2).bind fun bt247 => ((zu.f kj16 bt247.1 bt247.2.1 bt247.2.2.1 bt247.2.2.2 t206 t207 t208 t209).bind fun t254 => (if t254 = true then ((zR.f kj16 t220 t221 t222 t239 1).bind fun t255 => (if t255 < 0 then (none) else (if t255 = t238 then (some true) else (none)))) else (none))))) else (none))) = some r := H
       have A63 := Aside0.mk A630
       clear A630
       by_cases c64 : t240 < 0
       ·rw [if_pos c64] at H
        exact absurd H (by simp)
       ·rw [if_neg c64] at H
        have c64b0 : decide (t240 < 0) = false := decide_eq_false c64
        clear c64
        by_cases c65 : t240 = t238
        ·rw [if_pos c65] at H
         have c65b0 : (t240 == t238) = true := beq_iff_eq.mpr c65
         have c65b1 : (t240 != t238) = false := bne_eq_false_iff_eq.mpr c65
         clear c65
         replace H := Option.bind_eq_some_iff.mp H
         obtain ⟨⟨t241, t242, t243, t244⟩, A660, H⟩ := H
         replace H : ((zL.f kj16 t241 t242 t243 t244).bind fun bt247 => ((zu.f kj16 bt247.1 bt247.2.1 bt247.2.2.1 bt247.2.2.2 t206 t207 t208 t209).bind fun t254 => (if t254 = true then ((zR.f kj16 t220 t221 t222 t239 1).bind fun t255 => (if t255 < 0 then (none) else (if t255 = t238 then (some true) else (none)))) else (none)))) = some r := H
         have A66 := Aside0.mk A660
         clear A660
         replace H := Option.bind_eq_some_iff.mp H
         obtain ⟨⟨t247, t248, t249, t250⟩, A670, H⟩ := H
         replace H : ((zu.f kj16 t247 t248 t249 t250 t206 t207 t208 t209).bind fun t254 => (if t254 = true then ((zR.f kj16 t220 t221 t222 t239 1).bind fun t255 => (if t255 < 0 then (none) else (if t255 = t238 then (some true) else (none)))) else (none))) = some r := H
         have A67 := Aside0.mk A670
         clear A670
         replace H := Option.bind_eq_some_iff.mp H
         obtain ⟨t254, A680, H⟩ := H
         replace H : (if t254 = true then ((zR.f kj16 t220 t221 t222 t239 1).bind fun t255 => (if t255 < 0 then (none) else (if t255 = t238 then (some true) else (none)))) else (none)) = some r := H
         have A68 := Aside0.mk A680
         clear A680
         by_cases c69 : t254 = true
         ·subst c69
          have H1 : ((zR.f kj16 t220 t221 t222 t239 1).bind fun t255 => (if t255 < 0 then (none) else (if t255 = t238 then (some true) else (none)))) = some r := by rw [if_pos rfl] at H; exact H
          clear H
          have H := H1
          clear H1
          replace H := Option.bind_eq_some_iff.mp H
          obtain ⟨t255, A700, H⟩ := H
          replace H : (if t255 < 0 then (none) else (if t255 = t238 then (some true) else (none))) = some r := H
          have A70 := Aside0.mk A700
          clear A700
          by_cases c71 : t255 < 0
          ·rw [if_pos c71] at H
           exact absurd H (by simp)
          ·rw [if_neg c71] at H
           have c71b0 : decide (t255 < 0) = false := decide_eq_false c71
           clear c71
           by_cases c72 : t255 = t238
           ·rw [if_pos c72] at H
            have c72b0 : (t255 == t238) = true := beq_iff_eq.mpr c72
            have c72b1 : (t255 != t238) = false := bne_eq_false_iff_eq.mpr c72
            clear c72
            obtain rfl := Option.some.inj H
            have hnb73 := NB226_198.out
            have hnc73 := NB198_226.out
            have hnb74 := NB226_212.out
            have hnc74 := NB212_226.out
            have hnb75 := NB226_219.out
            have hnc75 := NB219_226.out
            have hcz76_0 : wc.cell? ⟨gb226, 0, none⟩ = some (.int .i64 t220) := (zb BK226.out 0).trans rfl
            have hcz76_1 : wc.cell? ⟨gb226, 1, none⟩ = some (.int .i64 t221) := (zb BK226.out 1).trans rfl
            have hcz76_2 : wc.cell? ⟨gb226, 2, none⟩ = some (.int .i64 t222) := (zb BK226.out 2).trans rfl
            have hcz76_3 : wc.cell? ⟨gb226, 3, none⟩ = some (.slice Ao42 t223.length co42) := (zb BK226.out 3).trans rfl
            have hfz76_0 := za BK226.out 0; have hfz76_1 := za BK226.out 1; have hfz76_2 := za BK226.out 2; have hfz76_3 := za BK226.out 3
            go_wp2_with (first | ((with_reducible refine zo (f := 26) rfl ?_); refine zT (some 45) rfl rfl Try.func26 (by kernel_rfl) rfl #[.agg #[.int .i64 t220, .int .i64 t221, .int .i64 t222, .slice Ao42 t223.length co42], .int .i64 1] rfl sqM ?_; (with_reducible refine (zK.calls kj16 t220 t221 t222 (fun k_ => some k_ = (.slice Ao42 t223.length co42 : Value).ownBlock) (.slice Ao42 t223.length co42) t223 1 t238 t239 w _ ?side1 ?side2 A62.out).mono ?_); (case side1 => repeat (first | (with_reducible first | exact HB.out | apply z6 | apply zZ | apply zS | refine zM ?_ GE198.out | refine zM ?_ GE212.out | refine zM ?_ GE219.out | refine zM ?_ GE226.out) | exact HB.out)); (case side2 => exact Kd.jP rfl HO_227003.out); rintro e w77 ⟨rfl, hy0, hb, hkp⟩; refine ⟨_, rfl, ?_⟩; have n0_ := Aside0.mk (Kd.zE (ok' := fun k_ => some k_ ≠ (.slice Ao35 t236.length co35 : Value).ownBlock ∧ some k_ ≠ (.slice Ao42 t223.length co42 : Value).ownBlock) (Kd.vx (HO_213003.out) hkp (fun k_ hk_ hs_ => by first | exact hk_.2 hs_ | (have e_ : some k_ = _ := hs_; simp only [e_, ne_eq, not_true_eq_false, and_false, false_and] at hk_))) (fun k_ hk_ => by first | exact ⟨hk_.1.1, hk_.1.2⟩ | (refine ⟨?_, ?_⟩ <;> intro e_ <;> simp only [e_, ne_eq, not_true_eq_false, and_false, false_and] at hk_))); have n1_ := Aside0.mk (Kd.zE (ok' := fun k_ => some k_ ≠ (.slice Ao28 t209.length co28 : Value).ownBlock ∧ some k_ ≠ (.slice Ao42 t223.length co42 : Value).ownBlock) (Kd.vx (HO_220003.out) hkp (fun k_ hk_ hs_ => by first | exact hk_.2 hs_ | (have e_ : some k_ = _ := hs_; simp only [e_, ne_eq, not_true_eq_false, and_false, false_and] at hk_))) (fun k_ hk_ => by first | exact ⟨hk_.1.1, hk_.1.2⟩ | (refine ⟨?_, ?_⟩ <;> intro e_ <;> simp only [e_, ne_eq, not_true_eq_false, and_false, false_and] at hk_))); have n2_ := Aside0.mk (Kd.yH rfl hy0 (fun k_ e_ => HO_227003.out.1 k_ e_)); have n3_ := Aside0.mk (qD (sqK BK198.out) hkp (fun hs_ => (fun e_ => (Kd.qS HO_227003.out BK198.out (by decide)) e_) hs_)); have n4_ := Aside0.mk (qD (sqK BK212.out) hkp (fun hs_ => (fun e_ => (Kd.qS HO_227003.out BK212.out (by decide)) e_) hs_)); have n5_ := Aside0.mk (qD (sqK BK219.out) hkp (fun hs_ => (fun e_ => (Kd.qS HO_227003.out BK219.out (by decide)) e_) hs_)); have n6_ := Aside0.mk (qD (sqK BK226.out) hkp (fun hs_ => (fun e_ => (Kd.qS HO_227003.out BK226.out (by decide)) e_) hs_)); have n7_ := Aside0.mk (hb); clear HO_213003; clear HO_220003; clear HO_227003; clear BK198; clear BK212; clear BK219; clear BK226; clear HB; have HO_213003 := n0_; have HO_220003 := n1_; have HO_227003 := n2_; have BK198 := n3_; have BK212 := n4_; have BK219 := n5_; have BK226 := n6_; have HB := n7_; clear n0_ n1_ n2_ n3_ n4_ n5_ n6_ n7_; (try clear hb); (try clear hkp); (try clear hy0); have hcz78_0 : w77.cell? ⟨gb226, 0, none⟩ = some (.int .i64 t220) := (zb BK226.out 0).trans rfl; have hcz78_1 : w77.cell? ⟨gb226, 1, none⟩ = some (.int .i64 t221) := (zb BK226.out 1).trans rfl; have hcz78_2 : w77.cell? ⟨gb226, 2, none⟩ = some (.int .i64 t222) := (zb BK226.out 2).trans rfl; have hcz78_3 : w77.cell? ⟨gb226, 3, none⟩ = some (.slice Ao42 t223.length co42) := (zb BK226.out 3).trans rfl; have hfz78_0 := za BK226.out 0; have hfz78_1 := za BK226.out 1; have hfz78_2 := za BK226.out 2; have hfz78_3 := za BK226.out 3) | ((with_reducible refine zo (f := 27) rfl ?_); refine zT (some 48) rfl rfl Try.func27 (by kernel_rfl) rfl #[.agg #[.int .i64 t220, .int .i64 t221, .int .i64 t222, .slice Ao42 t239.length co42], .int .i64 1] rfl (by (try simp only [List.map_toArray, List.map_cons, List.map_nil]); first | done | (rw [show t239.length = t223.length from (Kd.zx HO_227003.out).1.symm] <;> rfl) | rfl | (simp only [List.length_drop, List.length_take]; rfl)) ?_; (with_reducible refine (zR.calls kj16 t220 t221 t222 _ _ t239 1 t240 _ ?side1 ?side2 A63.out).mono ?_); (case side1 => exact sqC (Kd.zx HO_227003.out).2.2); (case side2 => rw [show t239.length = t223.length from (Kd.zx HO_227003.out).1.symm]; exact (Kd.zx HO_227003.out).2.1); rintro e w79 ⟨rfl, hb⟩; refine ⟨_, rfl, ?_⟩; have n0_ := Aside0.mk (Kd.zJ (sqR HO_213003.out) hb); have n1_ := Aside0.mk (Kd.zJ (sqR HO_220003.out) hb); have n2_ := Aside0.mk (Kd.zJ (sqR HO_227003.out) hb); have n3_ := Aside0.mk (zh (g := gb198) (o := .cells #[.int .i64 a0_0, .int .i64 a0_1, .int .i64 a0_2, .slice A0_3 l0_3.length c0_3] 24 (0, 0)) (sqK BK198.out) hb); have n4_ := Aside0.mk (zh (g := gb212) (o := .cells #[.int .i64 t206, .int .i64 t207, .int .i64 t208, .slice Ao28 t209.length co28] 27 (0, 0)) (sqK BK212.out) hb); have n5_ := Aside0.mk (zh (g := gb219) (o := .cells #[.int .i64 t213, .int .i64 t214, .int .i64 t215, .slice Ao35 t236.length co35] 27 (0, 0)) (sqK BK219.out) hb); have n6_ := Aside0.mk (zh (g := gb226) (o := .cells #[.int .i64 t220, .int .i64 t221, .int .i64 t222, .slice Ao42 t223.length co42] 27 (0, 0)) (sqK BK226.out) hb); have n7_ := Aside0.mk (zj sqB hb); clear HO_213003; clear HO_220003; clear HO_227003; clear BK198; clear BK212; clear BK219; clear BK226; clear HB; have HO_213003 := n0_; have HO_220003 := n1_; have HO_227003 := n2_; have BK198 := n3_; have BK212 := n4_; have BK219 := n5_; have BK226 := n6_; have HB := n7_; clear n0_ n1_ n2_ n3_ n4_ n5_ n6_ n7_; (try clear hb); (try clear hb2); (try clear hk); (try clear hi); have hnb80 := NB198_212.out; have hnc80 := NB212_198.out; have hnb81 := NB198_219.out; have hnc81 := NB219_198.out; have hcz82_0 : w79.cell? ⟨gb198, 0, none⟩ = some (.int .i64 a0_0) := (zb BK198.out 0).trans rfl; have hcz82_1 : w79.cell? ⟨gb198, 1, none⟩ = some (.int .i64 a0_1) := (zb BK198.out 1).trans rfl; have hcz82_2 : w79.cell? ⟨gb198, 2, none⟩ = some (.int .i64 a0_2) := (zb BK198.out 2).trans rfl; have hcz82_3 : w79.cell? ⟨gb198, 3, none⟩ = some (.slice A0_3 l0_3.length c0_3) := (zb BK198.out 3).trans rfl; have hfz82_0 := za BK198.out 0; have hfz82_1 := za BK198.out 1; have hfz82_2 := za BK198.out 2; have hfz82_3 := za BK198.out 3) | ((with_reducible refine zo (f := 13) rfl ?_); refine zT (some 55) rfl rfl Try.func13 (by kernel_rfl) rfl #[.agg #[.int .i64 a0_0, .int .i64 a0_1, .int .i64 a0_2, .slice A0_3 l0_3.length c0_3]] rfl sqM ?_; (with_reducible refine (zF.calls kj16 a0_0 a0_1 a0_2 _ _ l0_3 t241 t242 t243 t244 _ ?side1 ?side2 A66.out).mono ?_); (case side1 => exact sqC (Kd.qc HR0_3.out HB.out)); (case side2 => exact HC0_3.out); rintro e w83 ⟨v245, rfl, ho0, hb⟩; refine ⟨_, rfl, ?_⟩; have n0_ := Aside0.mk (Kd.qv (sqR HO_213003.out) (Kd.qE ho0) hb); have n1_ := Aside0.mk (Kd.qv (sqR HO_220003.out) (Kd.qE ho0) hb); have n2_ := Aside0.mk (Kd.qv (sqR HO_227003.out) (Kd.qE ho0) hb); have n3_ := Aside0.mk (Kd.qx (Kd.qR (Kd.qR (Kd.qR ho0 (Kd.jH (sqR HO_213003.out))) (Kd.jH (sqR HO_220003.out))) (Kd.jH (sqR HO_227003.out))) (zO sqB)); have n4_ := Aside0.mk (zh (g := gb198) (o := .cells #[.int .i64 a0_0, .int .i64 a0_1, .int .i64 a0_2, .slice A0_3 l0_3.length c0_3] 24 (0, 0)) (sqK BK198.out) hb); have n5_ := Aside0.mk (zh (g := gb212) (o := .cells #[.int .i64 t206, .int .i64 t207, .int .i64 t208, .slice Ao28 t209.length co28] 27 (0, 0)) (sqK BK212.out) hb); have n6_ := Aside0.mk (zh (g := gb219) (o := .cells #[.int .i64 t213, .int .i64 t214, .int .i64 t215, .slice Ao35 t236.length co35] 27 (0, 0)) (sqK BK219.out) hb); have n7_ := Aside0.mk (zh (g := gb226) (o := .cells #[.int .i64 t220, .int .i64 t221, .int .i64 t222, .slice Ao42 t223.length co42] 27 (0, 0)) (sqK BK226.out) hb); have n8_ := Aside0.mk (zj sqB hb); clear HO_213003; clear HO_220003; clear HO_227003; clear BK198; clear BK212; clear BK219; clear BK226; clear HB; have HO_213003 := n0_; have HO_220003 := n1_; have HO_227003 := n2_; have HO246 := n3_; have BK198 := n4_; have BK212 := n5_; have BK219 := n6_; have BK226 := n7_; have HB := n8_; clear n0_ n1_ n2_ n3_ n4_ n5_ n6_ n7_ n8_; (try clear hb); (try clear hb2); (try clear hk); (try clear hi); (try clear ho0); obtain ⟨Ao84, co84, eo84⟩ := Kd.qb HO246.out; subst eo84) | ((with_reducible refine zo (f := 33) rfl ?_); refine zT (some 56) rfl rfl Try.func33 (by kernel_rfl) rfl #[.agg #[.int .i64 t241, .int .i64 t242, .int .i64 t243, .slice Ao84 t244.length co84]] rfl sqM ?_; (with_reducible refine (zL.calls kj16 t241 t242 t243 _ _ t244 t247 t248 t249 t250 _ ?side1 ?side2 A67.out).mono ?_); (case side1 => exact sqC (Kd.zx HO246.out).2.2); (case side2 => exact (Kd.zx HO246.out).2.1); rintro e w85 ⟨v251, rfl, ho0, hb⟩; refine ⟨_, rfl, ?_⟩; have n0_ := Aside0.mk (Kd.qv (sqR HO_213003.out) (Kd.qE ho0) hb); have n1_ := Aside0.mk (Kd.qv (sqR HO_220003.out) (Kd.qE ho0) hb); have n2_ := Aside0.mk (Kd.qv (sqR HO_227003.out) (Kd.qE ho0) hb); have n3_ := Aside0.mk (Kd.qv (sqR HO246.out) (Kd.qE ho0) hb); have n4_ := Aside0.mk (Kd.qx (Kd.qR (Kd.qR (Kd.qR (Kd.qR ho0 (Kd.jH (sqR HO_213003.out))) (Kd.jH (sqR HO_220003.out))) (Kd.jH (sqR HO_227003.out))) (Kd.jH (sqR HO246.out))) (zO sqB)); have n5_ := Aside0.mk (zh (g := gb198) (o := .cells #[.int .i64 a0_0, .int .i64 a0_1, .int .i64 a0_2, .slice A0_3 l0_3.length c0_3] 24 (0, 0)) (sqK BK198.out) hb); have n6_ := Aside0.mk (zh (g := gb212) (o := .cells #[.int .i64 t206, .int .i64 t207, .int .i64 t208, .slice Ao28 t209.length co28] 27 (0, 0)) (sqK BK212.out) hb); have n7_ := Aside0.mk (zh (g := gb219) (o := .cells #[.int .i64 t213, .int .i64 t214, .int .i64 t215, .slice Ao35 t236.length co35] 27 (0, 0)) (sqK BK219.out) hb); have n8_ := Aside0.mk (zh (g := gb226) (o := .cells #[.int .i64 t220, .int .i64 t221, .int .i64 t222, .slice Ao42 t223.length co42] 27 (0, 0)) (sqK BK226.out) hb); have n9_ := Aside0.mk (zj sqB hb); clear HO_213003; clear HO_220003; clear HO_227003; clear HO246; clear BK198; clear BK212; clear BK219; clear BK226; clear HB; have HO_213003 := n0_; have HO_220003 := n1_; have HO_227003 := n2_; have HO246 := n3_; have HO252 := n4_; have BK198 := n5_; have BK212 := n6_; have BK219 := n7_; have BK226 := n8_; have HB := n9_; clear n0_ n1_ n2_ n3_ n4_ n5_ n6_ n7_ n8_ n9_; (try clear hb); (try clear hb2); (try clear hk); (try clear hi); (try clear ho0)) | ((with_reducible refine zA (N := 10) rfl ?_); refine zz ?hg (N := 10) ?hd (cs := #[.int .i64 0, .int .i64 0, .int .i64 0, .slice none 0 0]) (t := 27) ?hr ?_; (case hd => rfl); (case hg => rfl); (case hr => exact sqG); intro gb253 hg w86 hbox hb; have n0_ := Aside0.mk (Kd.zJ (sqR HO_213003.out) hb); have n1_ := Aside0.mk (Kd.zJ (sqR HO_220003.out) hb); have n2_ := Aside0.mk (Kd.zJ (sqR HO_227003.out) hb); have n3_ := Aside0.mk (Kd.zJ (sqR HO246.out) hb); have n4_ := Aside0.mk (Kd.zJ (sqR HO252.out) hb); have n5_ := Aside0.mk (zh (g := gb198) (o := .cells #[.int .i64 a0_0, .int .i64 a0_1, .int .i64 a0_2, .slice A0_3 l0_3.length c0_3] 24 (0, 0)) (sqK BK198.out) hb); have n6_ := Aside0.mk (zh (g := gb212) (o := .cells #[.int .i64 t206, .int .i64 t207, .int .i64 t208, .slice Ao28 t209.length co28] 27 (0, 0)) (sqK BK212.out) hb); have n7_ := Aside0.mk (zh (g := gb219) (o := .cells #[.int .i64 t213, .int .i64 t214, .int .i64 t215, .slice Ao35 t236.length co35] 27 (0, 0)) (sqK BK219.out) hb); have n8_ := Aside0.mk (zh (g := gb226) (o := .cells #[.int .i64 t220, .int .i64 t221, .int .i64 t222, .slice Ao42 t223.length co42] 27 (0, 0)) (sqK BK226.out) hb); have n9_ := Aside0.mk (zj sqB hb); have n10_ := Aside0.mk (hbox); have n11_ := Aside0.mk ((sqS hg : w.heap.size ≤ gb253)); have n12_ := Aside0.mk ((sqS hg : w.heap.size ≤ gb253)); have n13_ := Aside0.mk ((by rw [hg]; exact Nat.ne_of_lt (zI (g := gb198) (o := .cells #[.int .i64 a0_0, .int .i64 a0_1, .int .i64 a0_2, .slice A0_3 l0_3.length c0_3] 24 (0, 0)) (sqK BK198.out)) : gb198 ≠ gb253)); have n14_ := Aside0.mk ((by rw [hg]; exact Nat.ne_of_gt (zI (g := gb198) (o := .cells #[.int .i64 a0_0, .int .i64 a0_1, .int .i64 a0_2, .slice A0_3 l0_3.length c0_3] 24 (0, 0)) (sqK BK198.out)) : gb253 ≠ gb198)); have n15_ := Aside0.mk ((by rw [hg]; exact Nat.ne_of_lt (zI (g := gb212) (o := .cells #[.int .i64 t206, .int .i64 t207, .int .i64 t208, .slice Ao28 t209.length co28] 27 (0, 0)) (sqK BK212.out)) : gb212 ≠ gb253)); have n16_ := Aside0.mk ((by rw [hg]; exact Nat.ne_of_gt (zI (g := gb212) (o := .cells #[.int .i64 t206, .int .i64 t207, .int .i64 t208, .slice Ao28 t209.length co28] 27 (0, 0)) (sqK BK212.out)) : gb253 ≠ gb212)); have n17_ := Aside0.mk ((by rw [hg]; exact Nat.ne_of_lt (zI (g := gb219) (o := .cells #[.int .i64 t213, .int .i64 t214, .int .i64 t215, .slice Ao35 t236.length co35] 27 (0, 0)) (sqK BK219.out)) : gb219 ≠ gb253)); have n18_ := Aside0.mk ((by rw [hg]; exact Nat.ne_of_gt (zI (g := gb219) (o := .cells #[.int .i64 t213, .int .i64 t214, .int .i64 t215, .slice Ao35 t236.length co35] 27 (0, 0)) (sqK BK219.out)) : gb253 ≠ gb219)); have n19_ := Aside0.mk ((by rw [hg]; exact Nat.ne_of_lt (zI (g := gb226) (o := .cells #[.int .i64 t220, .int .i64 t221, .int .i64 t222, .slice Ao42 t223.length co42] 27 (0, 0)) (sqK BK226.out)) : gb226 ≠ gb253)); have n20_ := Aside0.mk ((by rw [hg]; exact Nat.ne_of_gt (zI (g := gb226) (o := .cells #[.int .i64 t220, .int .i64 t221, .int .i64 t222, .slice Ao42 t223.length co42] 27 (0, 0)) (sqK BK226.out)) : gb253 ≠ gb226)); clear HO_213003; clear HO_220003; clear HO_227003; clear HO246; clear HO252; clear BK198; clear BK212; clear BK219; clear BK226; clear HB; have HO_213003 := n0_; have HO_220003 := n1_; have HO_227003 := n2_; have HO246 := n3_; have HO252 := n4_; have BK198 := n5_; have BK212 := n6_; have BK219 := n7_; have BK226 := n8_; have HB := n9_; have BK253 := n10_; have GW253 := n11_; have GE253 := n12_; have NB198_253 := n13_; have NB253_198 := n14_; have NB212_253 := n15_; have NB253_212 := n16_; have NB219_253 := n17_; have NB253_219 := n18_; have NB226_253 := n19_; have NB253_226 := n20_; clear n0_ n1_ n2_ n3_ n4_ n5_ n6_ n7_ n8_ n9_ n10_ n11_ n12_ n13_ n14_ n15_ n16_ n17_ n18_ n19_ n20_; clear hb hbox hg; have hnb87 := NB253_198.out; have hnc87 := NB198_253.out; have hnb88 := NB253_212.out; have hnc88 := NB212_253.out; have hnb89 := NB253_219.out; have hnc89 := NB219_253.out; have hnb90 := NB253_226.out; have hnc90 := NB226_253.out; have hcz91_0 : w86.cell? ⟨gb253, 0, none⟩ = some (.int .i64 0) := (zb BK253.out 0).trans rfl; have hcz91_1 : w86.cell? ⟨gb253, 1, none⟩ = some (.int .i64 0) := (zb BK253.out 1).trans rfl; have hcz91_2 : w86.cell? ⟨gb253, 2, none⟩ = some (.int .i64 0) := (zb BK253.out 2).trans rfl; have hcz91_3 : w86.cell? ⟨gb253, 3, none⟩ = some (.slice none 0 0) := (zb BK253.out 3).trans rfl; have hfz91_0 := za BK253.out 0; have hfz91_1 := za BK253.out 1; have hfz91_2 := za BK253.out 2; have hfz91_3 := za BK253.out 3; obtain ⟨Ao92, co92, eo92⟩ := Kd.qb HO252.out; subst eo92; have hnb93 := NB212_219.out; have hnc93 := NB219_212.out; have hcz94_0 : w86.cell? ⟨gb212, 0, none⟩ = some (.int .i64 t206) := (zb BK212.out 0).trans rfl; have hcz94_1 : w86.cell? ⟨gb212, 1, none⟩ = some (.int .i64 t207) := (zb BK212.out 1).trans rfl; have hcz94_2 : w86.cell? ⟨gb212, 2, none⟩ = some (.int .i64 t208) := (zb BK212.out 2).trans rfl; have hcz94_3 : w86.cell? ⟨gb212, 3, none⟩ = some (.slice Ao28 t209.length co28) := (zb BK212.out 3).trans rfl; have hfz94_0 := za BK212.out 0; have hfz94_1 := za BK212.out 1; have hfz94_2 := za BK212.out 2; have hfz94_3 := za BK212.out 3) | ((with_reducible refine zo (f := 15) rfl ?_); refine zT (some 59) rfl rfl Try.func15 (by kernel_rfl) rfl #[.agg #[.int .i64 t247, .int .i64 t248, .int .i64 t249, .slice Ao92 t250.length co92], .agg #[.int .i64 t206, .int .i64 t207, .int .i64 t208, .slice Ao28 t209.length co28]] rfl sqM ?_; (with_reducible refine (zu.calls kj16 t247 t248 t249 _ _ t250 t206 t207 t208 _ _ t209 true _ ?side1 ?side2 ?side3 ?side4 A68.out).mono ?_); (case side1 => refine (Kd.zx (e := 3) (base := w.heap.size) (ok := fun k_ => ((((True ∧ some k_ ≠ (.slice Ao28 t209.length co28 : Value).ownBlock) ∧ some k_ ≠ (.slice Ao35 t236.length co35 : Value).ownBlock) ∧ some k_ ≠ (.slice Ao42 t223.length co42 : Value).ownBlock) ∧ some k_ ≠ (.slice Ao84 t244.length co84 : Value).ownBlock)) (n := t250.length) (c := co92) ?_).2.2; exact (by refine sqR ?_; exact (Kd.zE (Kd.zv (p := ⟨gb253, 3, none⟩) (Kd.zv (p := ⟨gb253, 2, none⟩) (Kd.zv (p := ⟨gb253, 1, none⟩) (Kd.zv (p := ⟨gb253, 0, none⟩) (Kd.zQ HO252.out BK253.out (by decide)) (fun _ hk => hk.2) (.int .i64 t247)) (fun _ hk => hk.2) (.int .i64 t248)) (fun _ hk => hk.2) (.int .i64 t249)) (fun _ hk => hk.2) (.slice Ao92 t250.length co92)) (fun _ h_ => h_.1)))); (case side2 => exact (Kd.zx HO252.out).2.1); (case side3 => refine (Kd.zx (e := 3) (base := w.heap.size) (ok := fun k_ => (((some k_ ≠ (.slice Ao35 t236.length co35 : Value).ownBlock ∧ some k_ ≠ (.slice Ao42 t223.length co42 : Value).ownBlock) ∧ some k_ ≠ (.slice Ao84 t244.length co84 : Value).ownBlock) ∧ some k_ ≠ (.slice Ao92 t250.length co92 : Value).ownBlock)) (n := t209.length) (c := co28) ?_).2.2; exact (by refine sqR ?_; exact (Kd.zE (Kd.zv (p := ⟨gb253, 3, none⟩) (Kd.zv (p := ⟨gb253, 2, none⟩) (Kd.zv (p := ⟨gb253, 1, none⟩) (Kd.zv (p := ⟨gb253, 0, none⟩) (Kd.zQ HO_213003.out BK253.out (by decide)) (fun _ hk => hk.2) (.int .i64 t247)) (fun _ hk => hk.2) (.int .i64 t248)) (fun _ hk => hk.2) (.int .i64 t249)) (fun _ hk => hk.2) (.slice Ao92 t250.length co92)) (fun _ h_ => h_.1)))); (case side4 => exact (Kd.zx HO_213003.out).2.1); rintro e w95 ⟨rfl, hb⟩; refine ⟨_, rfl, ?_⟩; have n0_ := Aside0.mk (Kd.zJ (by refine sqR ?_; exact (Kd.zE (Kd.zv (p := ⟨gb253, 3, none⟩) (Kd.zv (p := ⟨gb253, 2, none⟩) (Kd.zv (p := ⟨gb253, 1, none⟩) (Kd.zv (p := ⟨gb253, 0, none⟩) (Kd.zQ HO_213003.out BK253.out (by decide)) (fun _ hk => hk.2) (.int .i64 t247)) (fun _ hk => hk.2) (.int .i64 t248)) (fun _ hk => hk.2) (.int .i64 t249)) (fun _ hk => hk.2) (.slice Ao92 t250.length co92)) (fun _ h_ => h_.1))) hb); have n1_ := Aside0.mk (Kd.zJ (by refine sqR ?_; exact (Kd.zE (Kd.zv (p := ⟨gb253, 3, none⟩) (Kd.zv (p := ⟨gb253, 2, none⟩) (Kd.zv (p := ⟨gb253, 1, none⟩) (Kd.zv (p := ⟨gb253, 0, none⟩) (Kd.zQ HO_220003.out BK253.out (by decide)) (fun _ hk => hk.2) (.int .i64 t247)) (fun _ hk => hk.2) (.int .i64 t248)) (fun _ hk => hk.2) (.int .i64 t249)) (fun _ hk => hk.2) (.slice Ao92 t250.length co92)) (fun _ h_ => h_.1))) hb); have n2_ := Aside0.mk (Kd.zJ (by refine sqR ?_; exact (Kd.zE (Kd.zv (p := ⟨gb253, 3, none⟩) (Kd.zv (p := ⟨gb253, 2, none⟩) (Kd.zv (p := ⟨gb253, 1, none⟩) (Kd.zv (p := ⟨gb253, 0, none⟩) (Kd.zQ HO_227003.out BK253.out (by decide)) (fun _ hk => hk.2) (.int .i64 t247)) (fun _ hk => hk.2) (.int .i64 t248)) (fun _ hk => hk.2) (.int .i64 t249)) (fun _ hk => hk.2) (.slice Ao92 t250.length co92)) (fun _ h_ => h_.1))) hb); have n3_ := Aside0.mk (Kd.zJ (by refine sqR ?_; exact (Kd.zE (Kd.zv (p := ⟨gb253, 3, none⟩) (Kd.zv (p := ⟨gb253, 2, none⟩) (Kd.zv (p := ⟨gb253, 1, none⟩) (Kd.zv (p := ⟨gb253, 0, none⟩) (Kd.zQ HO246.out BK253.out (by decide)) (fun _ hk => hk.2) (.int .i64 t247)) (fun _ hk => hk.2) (.int .i64 t248)) (fun _ hk => hk.2) (.int .i64 t249)) (fun _ hk => hk.2) (.slice Ao92 t250.length co92)) (fun _ h_ => h_.1))) hb); have n4_ := Aside0.mk (Kd.zJ (by refine sqR ?_; exact (Kd.zE (Kd.zv (p := ⟨gb253, 3, none⟩) (Kd.zv (p := ⟨gb253, 2, none⟩) (Kd.zv (p := ⟨gb253, 1, none⟩) (Kd.zv (p := ⟨gb253, 0, none⟩) (Kd.zQ HO252.out BK253.out (by decide)) (fun _ hk => hk.2) (.int .i64 t247)) (fun _ hk => hk.2) (.int .i64 t248)) (fun _ hk => hk.2) (.int .i64 t249)) (fun _ hk => hk.2) (.slice Ao92 t250.length co92)) (fun _ h_ => h_.1))) hb); have n5_ := Aside0.mk (zh (g := gb198) (o := .cells #[.int .i64 a0_0, .int .i64 a0_1, .int .i64 a0_2, .slice A0_3 l0_3.length c0_3] 24 (0, 0)) (by refine sqK ?_; refine zw ?_ NB198_253.out _; refine sqK ?_; refine zw ?_ NB198_253.out _; refine sqK ?_; refine zw ?_ NB198_253.out _; refine sqK ?_; refine zw ?_ NB198_253.out _; refine sqK ?_; exact BK198.out) hb); have n6_ := Aside0.mk (zh (g := gb212) (o := .cells #[.int .i64 t206, .int .i64 t207, .int .i64 t208, .slice Ao28 t209.length co28] 27 (0, 0)) (by refine sqK ?_; refine zw ?_ NB212_253.out _; refine sqK ?_; refine zw ?_ NB212_253.out _; refine sqK ?_; refine zw ?_ NB212_253.out _; refine sqK ?_; refine zw ?_ NB212_253.out _; refine sqK ?_; exact BK212.out) hb); have n7_ := Aside0.mk (zh (g := gb219) (o := .cells #[.int .i64 t213, .int .i64 t214, .int .i64 t215, .slice Ao35 t236.length co35] 27 (0, 0)) (by refine sqK ?_; refine zw ?_ NB219_253.out _; refine sqK ?_; refine zw ?_ NB219_253.out _; refine sqK ?_; refine zw ?_ NB219_253.out _; refine sqK ?_; refine zw ?_ NB219_253.out _; refine sqK ?_; exact BK219.out) hb); have n8_ := Aside0.mk (zh (g := gb226) (o := .cells #[.int .i64 t220, .int .i64 t221, .int .i64 t222, .slice Ao42 t223.length co42] 27 (0, 0)) (by refine sqK ?_; refine zw ?_ NB226_253.out _; refine sqK ?_; refine zw ?_ NB226_253.out _; refine sqK ?_; refine zw ?_ NB226_253.out _; refine sqK ?_; refine zw ?_ NB226_253.out _; refine sqK ?_; exact BK226.out) hb); have n9_ := Aside0.mk (zh (g := gb253) (o := .cells #[.int .i64 t247, .int .i64 t248, .int .i64 t249, .slice Ao92 t250.length co92] 27 (0, 0)) (by refine sqK ?_; refine zD (cs := #[.int .i64 t247, .int .i64 t248, .int .i64 t249, .slice none 0 0]) ?_ 3 _ rfl; refine sqK ?_; refine zD (cs := #[.int .i64 t247, .int .i64 t248, .int .i64 0, .slice none 0 0]) ?_ 2 _ rfl; refine sqK ?_; refine zD (cs := #[.int .i64 t247, .int .i64 0, .int .i64 0, .slice none 0 0]) ?_ 1 _ rfl; refine sqK ?_; refine zD (cs := #[.int .i64 0, .int .i64 0, .int .i64 0, .slice none 0 0]) ?_ 0 _ rfl; refine sqK ?_; exact BK253.out) hb); have n10_ := Aside0.mk (zj sqB hb); clear HO_213003; clear HO_220003; clear HO_227003; clear HO246; clear HO252; clear BK198; clear BK212; clear BK219; clear BK226; clear BK253; clear HB; have HO_213003 := n0_; have HO_220003 := n1_; have HO_227003 := n2_; have HO246 := n3_; have HO252 := n4_; have BK198 := n5_; have BK212 := n6_; have BK219 := n7_; have BK226 := n8_; have BK253 := n9_; have HB := n10_; clear n0_ n1_ n2_ n3_ n4_ n5_ n6_ n7_ n8_ n9_ n10_; (try clear hb); (try clear hb2); (try clear hk); (try clear hi); have hcz96_0 : w95.cell? ⟨gb226, 0, none⟩ = some (.int .i64 t220) := (zb BK226.out 0).trans rfl; have hcz96_1 : w95.cell? ⟨gb226, 1, none⟩ = some (.int .i64 t221) := (zb BK226.out 1).trans rfl; have hcz96_2 : w95.cell? ⟨gb226, 2, none⟩ = some (.int .i64 t222) := (zb BK226.out 2).trans rfl; have hcz96_3 : w95.cell? ⟨gb226, 3, none⟩ = some (.slice Ao42 t223.length co42) := (zb BK226.out 3).trans rfl; have hfz96_0 := za BK226.out 0; have hfz96_1 := za BK226.out 1; have hfz96_2 := za BK226.out 2; have hfz96_3 := za BK226.out 3) | ((with_reducible refine zo (f := 27) rfl ?_); refine zT (some 63) rfl rfl Try.func27 (by kernel_rfl) rfl #[.agg #[.int .i64 t220, .int .i64 t221, .int .i64 t222, .slice Ao42 t239.length co42], .int .i64 1] rfl (by (try simp only [List.map_toArray, List.map_cons, List.map_nil]); first | done | (rw [show t239.length = t223.length from (Kd.zx HO_227003.out).1.symm] <;> rfl) | rfl | (simp only [List.length_drop, List.length_take]; rfl)) ?_; (with_reducible refine (zR.calls kj16 t220 t221 t222 _ _ t239 1 t255 _ ?side1 ?side2 A70.out).mono ?_); (case side1 => exact sqC (Kd.zx HO_227003.out).2.2); (case side2 => rw [show t239.length = t223.length from (Kd.zx HO_227003.out).1.symm]; exact (Kd.zx HO_227003.out).2.1); rintro e w97 ⟨rfl, hb⟩; refine ⟨_, rfl, ?_⟩; have n0_ := Aside0.mk (Kd.zJ (sqR HO_213003.out) hb); have n1_ := Aside0.mk (Kd.zJ (sqR HO_220003.out) hb); have n2_ := Aside0.mk (Kd.zJ (sqR HO_227003.out) hb); have n3_ := Aside0.mk (Kd.zJ (sqR HO246.out) hb); have n4_ := Aside0.mk (Kd.zJ (sqR HO252.out) hb); have n5_ := Aside0.mk (zh (g := gb198) (o := .cells #[.int .i64 a0_0, .int .i64 a0_1, .int .i64 a0_2, .slice A0_3 l0_3.length c0_3] 24 (0, 0)) (sqK BK198.out) hb); have n6_ := Aside0.mk (zh (g := gb212) (o := .cells #[.int .i64 t206, .int .i64 t207, .int .i64 t208, .slice Ao28 t209.length co28] 27 (0, 0)) (sqK BK212.out) hb); have n7_ := Aside0.mk (zh (g := gb219) (o := .cells #[.int .i64 t213, .int .i64 t214, .int .i64 t215, .slice Ao35 t236.length co35] 27 (0, 0)) (sqK BK219.out) hb); have n8_ := Aside0.mk (zh (g := gb226) (o := .cells #[.int .i64 t220, .int .i64 t221, .int .i64 t222, .slice Ao42 t223.length co42] 27 (0, 0)) (sqK BK226.out) hb); have n9_ := Aside0.mk (zh (g := gb253) (o := .cells #[.int .i64 t247, .int .i64 t248, .int .i64 t249, .slice Ao92 t250.length co92] 27 (0, 0)) (sqK BK253.out) hb); have n10_ := Aside0.mk (zj sqB hb); clear HO_213003; clear HO_220003; clear HO_227003; clear HO246; clear HO252; clear BK198; clear BK212; clear BK219; clear BK226; clear BK253; clear HB; have HO_213003 := n0_; have HO_220003 := n1_; have HO_227003 := n2_; have HO246 := n3_; have HO252 := n4_; have BK198 := n5_; have BK212 := n6_; have BK219 := n7_; have BK226 := n8_; have BK253 := n9_; have HB := n10_; clear n0_ n1_ n2_ n3_ n4_ n5_ n6_ n7_ n8_ n9_ n10_; (try clear hb); (try clear hb2); (try clear hk); (try clear hi)))
            go_ret
            exact ⟨sqE, sqB⟩
           ·rw [if_neg c72] at H
            exact absurd H (by simp)
         ·replace c69 := Bool.eq_false_iff.mpr c69
          subst c69
          have H1 : (none) = some r := by rw [if_neg (show ¬ (false = true) by decide)] at H; exact H
          clear H
          have H := H1
          clear H1
          exact absurd H (by simp)
        ·rw [if_neg c65] at H
         exact absurd H (by simp)
   ·replace c15 := Bool.eq_false_iff.mpr c15
    subst c15
    have H1 : (none) = some r := by rw [if_neg (show ¬ (false = true) by decide)] at H; exact H
    clear H
    have H := H1
    clear H1
    exact absurd H (by simp)
  ·replace c12 := Bool.eq_false_iff.mpr c12
   subst c12
   have H1 : (none) = some r := by rw [if_neg (show ¬ (false = true) by decide)] at H; exact H
   clear H
   have H := H1
   clear H1
   exact absurd H (by simp)

end Go.Proofs.Ytopkfhnnapncgaa.F
end
section
namespace Go.Proofs.Ytopkfhnnapncgaa.Mt
def sdiff (a b : Nat) : Nat := a ^^^ (a &&& b)
theorem y4 (a b i : Nat) : (sdiff a b).testBit i = (a.testBit i && !b.testBit i) := by
  simp [sdiff, Nat.testBit_xor, Nat.testBit_and]; cases a.testBit i <;> cases b.testBit i <;> rfl
def elems (s : Nat) : List Nat := (List.range 8).filter s.testBit
theorem Qm {s e : Nat} : e ∈ elems s ↔ e < 8 ∧ s.testBit e = true := by simp [elems]
end Go.Proofs.Ytopkfhnnapncgaa.Mt
end
section
namespace Go.Proofs.Ytopkfhnnapncgaa.Bits
open Go.Proofs.Ytopkfhnnapncgaa.Mt (sdiff y4)
open Go.RowKit Go.Proofs.YtopkfhnnapncgaaW.PrintWords Go.Proofs.YtopkfhnnapncgaaW.PrintLast Go.Proofs.YtopkfhnnapncgaaW.PrintMore

theorem qU {n : Int} (h0 : -9223372036854775808 ≤ n) (h1 : n < 9223372036854775808) : wrap64 n = n := by unfold wrap64; omega
end Go.Proofs.Ytopkfhnnapncgaa.Bits
end
section
namespace Go.Proofs.Ytopkfhnnapncgaa.L
open Go.RowKit Go.Proofs.YtopkfhnnapncgaaW.PrintWords Go.Proofs.YtopkfhnnapncgaaW.PrintLast Go.Proofs.YtopkfhnnapncgaaW.PrintMore
open Go.Proofs.Ytopkfhnnapncgaa.Bits

theorem Ev.succ {α : Type} {g : Nat → Option α} {r : α} (h : Ev (fun k => g (k + 1)) r) : Ev g r := Ev.step (fun _ => rfl) h
theorem Ev.some {α : Type} {r s : α} (h : r = s) : Ev (fun _ => Option.some r) s := h ▸ Ev.now r
theorem qd {i : Nat} (h : i < 9223372036854775807) : wrap64 ((i : Int) + 1) = ((i + 1 : Nat) : Int) := qU (by omega) (by omega)

/-- A loop that asks of all places, and says no at the first that fails. -/
theorem Zu (L : Nat → Int → Option Bool) (n : Nat) (p : Nat → Bool) (hend : ∀ k, L (k + 1) (n : Int) = some true)
    (hstep : ∀ i, i < n → ∀ k, L (k + 1) (i : Int) = if p i = true then L k ((i + 1 : Nat) : Int) else some false) :
    ∀ d i, i + d = n → Ev (fun k => L k (i : Int)) ((List.range' i d).all p)
  | 0, i, hd => by
    obtain rfl : i = n := by omega
    refine Ev.succ ?_
    simp only [hend]; exact Ev.now _
  | d + 1, i, hd => by
    refine Ev.succ ?_
    rw [List.range'_succ, List.all_cons]
    simp only [hstep i (by omega)]
    cases hp : p i
    · simp only [Bool.false_eq_true, if_false, Bool.false_and]; exact Ev.now _
    · simp only [if_true, Bool.true_and]; exact Zu L n p hend hstep d (i + 1) (by omega)
theorem yd (L : Nat → Int → Option Bool) (n : Nat) (p : Nat → Bool) (hend : ∀ k, L (k + 1) (n : Int) = some true)
    (hstep : ∀ i, i < n → ∀ k, L (k + 1) (i : Int) = if p i = true then L k ((i + 1 : Nat) : Int) else some false) :
    Ev (fun k => L k 0) ((List.range n).all p) := by
  rw [List.range_eq_range']; exact Zu L n p hend hstep n 0 (by omega)
/-- A loop that gathers: at each place the state takes a step; an invariant goes along. -/
theorem yZ {σ ρ : Type} (L : Nat → σ → Int → Option ρ) (n : Nat) (step : σ → Nat → σ) (inv : Nat → σ → Prop) (fin : σ → ρ)
    (hend : ∀ s, inv n s → Ev (fun k => L (k + 1) s (n : Int)) (fin s))
    (hstep : ∀ i s, i < n → inv i s → inv (i + 1) (step s i) ∧ ∀ r, Ev (fun k => L k (step s i) ((i + 1 : Nat) : Int)) r → Ev (fun k => L (k + 1) s (i : Int)) r) :
    ∀ d i s, i + d = n → inv i s → Ev (fun k => L k s (i : Int)) (fin ((List.range' i d).foldl step s))
  | 0, i, s, hd, hi => by
    obtain rfl : i = n := by omega
    exact Ev.succ (hend s hi)
  | d + 1, i, s, hd, hi => by
    refine Ev.succ ?_
    obtain ⟨h1, h2⟩ := hstep i s (by omega) hi
    exact h2 _ (yZ L n step inv fin hend hstep d (i + 1) (step s i) (by omega) h1)
theorem jn {σ ρ : Type} (L : Nat → σ → Int → Option ρ) (n : Nat) (step : σ → Nat → σ) (inv : Nat → σ → Prop) (fin : σ → ρ)
    (hend : ∀ s, inv n s → Ev (fun k => L (k + 1) s (n : Int)) (fin s))
    (hstep : ∀ i s, i < n → inv i s → inv (i + 1) (step s i) ∧ ∀ r, Ev (fun k => L k (step s i) ((i + 1 : Nat) : Int)) r → Ev (fun k => L (k + 1) s (i : Int)) r) (s : σ) (h : inv 0 s) :
    Ev (fun k => L k s 0) (fin ((List.range n).foldl step s)) := by
  rw [List.range_eq_range']; exact yZ L n step inv fin hend hstep n 0 s (by omega) h

/-- A loop that gathers, and what stands behind it. -/
theorem jr {σ ρ : Type} (L : Nat → σ → Int → Option ρ) (n : Nat) (step : σ → Nat → σ) (inv : Nat → σ → Prop)
    (hstep : ∀ i s, i < n → inv i s → inv (i + 1) (step s i) ∧ ∀ r, Ev (fun k => L k (step s i) ((i + 1 : Nat) : Int)) r → Ev (fun k => L (k + 1) s (i : Int)) r) (s : σ) (h : inv 0 s) :
    inv n ((List.range n).foldl step s) ∧ ∀ r, Ev (fun k => L k ((List.range n).foldl step s) (n : Int)) r → Ev (fun k => L k s 0) r := by
  have key : ∀ d i s, i + d = n → inv i s → inv n ((List.range' i d).foldl step s) ∧ ∀ r, Ev (fun k => L k ((List.range' i d).foldl step s) (n : Int)) r → Ev (fun k => L k s (i : Int)) r := by
    intro d
    induction d with
    | zero => intro i s hd hi; obtain rfl : i = n := by omega
              exact ⟨hi, fun r h => h⟩
    | succ d ih =>
      intro i s hd hi
      obtain ⟨h1, h2⟩ := hstep i s (by omega) hi
      obtain ⟨h3, h4⟩ := ih (i + 1) (step s i) (by omega) h1
      rw [List.range'_succ, List.foldl_cons]
      exact ⟨h3, fun r h => Ev.succ (h2 r (h4 r h))⟩
  rw [List.range_eq_range']
  exact key n 0 s (by omega) h
theorem qI (l : List Int) (j : Nat) : rd l (j : Int) = l.getD j 0 := by simp [rd]
theorem vD {α : Type} (l : List α) (d : α) (p : α → Bool) : (List.range l.length).all (fun i => p (l.getD i d)) = l.all p := by
  rw [Bool.eq_iff_iff, List.all_eq_true, List.all_eq_true]
  constructor
  · intro h x hx
    obtain ⟨i, hi, rfl⟩ := List.getElem_of_mem hx
    have := h i (by simpa using hi)
    simpa [List.getElem?_eq_getElem hi] using this
  · intro h i hi
    have hi : i < l.length := by simpa using hi
    have := h l[i] (List.getElem_mem hi)
    simpa [List.getElem?_eq_getElem hi] using this
end Go.Proofs.Ytopkfhnnapncgaa.L
end
section
namespace Go.Proofs.Ytopkfhnnapncgaa.L
open Go.RowKit Go.Proofs.Ytopkfhnnapncgaa.F Go.Proofs.YtopkfhnnapncgaaW.PrintWords Go.Proofs.YtopkfhnnapncgaaW.PrintLast Go.Proofs.YtopkfhnnapncgaaW.PrintMore
open Go.Proofs.Ytopkfhnnapncgaa.Bits

theorem Ze (l l' : List Int) (h : l.length = l'.length) : (List.range l.length).all (fun i => decide (l.getD i 0 = l'.getD i 0)) = decide (l = l') := by
  rw [Bool.eq_iff_iff, List.all_eq_true, decide_eq_true_iff]
  constructor
  · intro hh
    apply List.ext_getElem h
    intro i h1 h2
    have := hh i (by simpa using h1)
    simpa [List.getElem?_eq_getElem h1, List.getElem?_eq_getElem h2] using this
  · rintro rfl i _
    simp

theorem Jh (l l' : List Int) (h : l.length ≤ 17592186044416) : Ev (fun k => qf.f k l l') (decide (l = l')) := by
  unfold qf.f
  by_cases e : l.length = l'.length
  · simp only [show ((l.length : Int) = (l'.length : Int)) by omega, if_true]
    rw [← Ze l l' e]
    refine yd _ _ _ (fun k => by simp only [qf.l0, show ¬ ((l.length : Int) < (l.length : Int)) by omega, if_false]) ?_
    intro i hi k
    simp only [qf.l0, show ((i : Int) < (l.length : Int)) by omega, show ((i : Int) < (l'.length : Int)) by omega, show (0 : Int) ≤ (i : Int) by omega, if_true, qI, qd (show i < 9223372036854775807 by omega), decide_eq_true_eq]
  · simp only [show ¬ ((l.length : Int) = (l'.length : Int)) by omega, if_false]
    rw [show decide (l = l') = false by simp; rintro rfl; exact e rfl]
    exact Ev.now _

theorem JK (l : List Int) (n : Int) (h : l.length ≤ 17592186044416) (h0 : 0 ≤ n) (h1 : n ≤ 1048576) : qP.f l n = some (if n < l.length then -1 else n - l.length) := by
  unfold qP.f
  have hw : wrap64 (n - (l.length : Int)) = n - (l.length : Int) := qU (by omega) (by omega)
  rw [hw]
  split
  · rw [if_pos (by omega)]
  · rw [if_neg (by omega)]
theorem yW (l : List Int) : ∀ n, n ≤ l.length → (List.range n).foldl (fun a i => a.set i (l.getD i 0)) (List.replicate l.length 0) = l.take n ++ List.replicate (l.length - n) 0
  | 0, _ => by simp
  | n + 1, h => by
    rw [List.range_succ, List.foldl_append, yW l n (by omega)]
    simp only [List.foldl_cons, List.foldl_nil]
    obtain ⟨m, hm⟩ : ∃ m, l.length - n = m + 1 := ⟨l.length - n - 1, by omega⟩
    rw [hm, List.replicate_succ, List.set_append_right _ _ (by simp; omega)]
    have : n - (List.take n l).length = 0 := by simp; omega
    rw [this, List.set_cons_zero, show l.length - (n + 1) = m by omega]
    have hg : l.getD n 0 = l[n] := by simp [List.getElem?_eq_getElem (show n < l.length by omega)]
    rw [List.take_succ_eq_append_getElem (by omega), List.append_assoc, List.singleton_append, hg]

theorem Jl (l : List Int) (h : l.length ≤ 17592186044416) : Ev (fun k => qa.f k l) l := by
  unfold qa.f
  simp only [show (0 : Int) ≤ (l.length : Int) by omega, Int.toNat_natCast, show l.length ≤ 35184372088832 by omega, if_true]
  have key := jn (fun k s i => qa.l0 k l s i) l.length (fun a i => a.set i (l.getD i 0)) (fun _ s => s.length = l.length) id
    (fun s hs => by
      simp only [qa.l0, show ¬ ((l.length : Int) < (l.length : Int)) by omega, if_false]
      exact Ev.now _)
    (fun i s hi hs => ⟨by simp [hs], fun r hr => by
      simp only [qa.l0, show ((i : Int) < (l.length : Int)) by omega, show ((i : Int) < (s.length : Int)) by omega, show (0 : Int) ≤ (i : Int) by omega, if_true, Int.toNat_natCast, qI, qd (show i < 9223372036854775807 by omega)]
      exact hr⟩) (List.replicate l.length 0) (by simp)
  rw [yW l l.length (Nat.le_refl _)] at key
  simpa using key
end Go.Proofs.Ytopkfhnnapncgaa.L
end
section
namespace Go.Proofs.Ytopkfhnnapncgaa.L
open Go.RowKit Go.Proofs.YtopkfhnnapncgaaW.PrintWords Go.Proofs.YtopkfhnnapncgaaW.PrintLast Go.Proofs.YtopkfhnnapncgaaW.PrintMore
open Go.Proofs.Ytopkfhnnapncgaa.Bits
set_option linter.unusedSimpArgs false
set_option linter.unusedVariables false
abbrev Tab := Nat → Nat → Int
def zW (M : Tab) (R C : Nat) : List Int := (List.range (R * C)).map fun k => M (k / C) (k % C)
def qz (M : Tab) (C i : Nat) : List Int := (List.range C).map (M i)
def z1 (M : Tab) (R C : Nat) : List (List Int) := (List.range R).map (qz M C)
def jj (l : List Int) (C : Nat) : Tab := fun i j => l.getD (i * C + j) 0
def upd (M : Tab) (i j : Nat) (v : Int) : Tab := fun a b => if a = i ∧ b = j then v else M a b
theorem vW {i j C : Nat} (hj : j < C) : (i * C + j) / C = i := by
  rw [Nat.mul_comm, Nat.mul_add_div (by omega), Nat.div_eq_of_lt hj, Nat.add_zero]
theorem vN {i j C : Nat} (hj : j < C) : (i * C + j) % C = j := by
  rw [Nat.mul_comm, Nat.mul_add_mod, Nat.mod_eq_of_lt hj]
theorem jF {R C i j : Nat} (hi : i < R) (hj : j < C) : i * C + j < R * C := by
  have := Nat.mul_le_mul_right C (show i + 1 ≤ R by omega)
  rw [Nat.succ_mul] at this; omega
theorem qn (M : Tab) (R C : Nat) : (zW M R C).length = R * C := by simp [zW]
theorem qF (M : Tab) (C i : Nat) : (qz M C i).length = C := by simp [qz]
theorem qj (M : Tab) (R C : Nat) : (z1 M R C).length = R := by simp [z1]
theorem qO (M : Tab) {R C i j : Nat} (hi : i < R) (hj : j < C) : (zW M R C).getD (i * C + j) 0 = M i j := by
  have h := jF hi hj
  simp [zW, List.getD_eq_getElem?_getD, h, vW hj, vN hj]
theorem jJ (M : Tab) {C i j : Nat} (hj : j < C) : (qz M C i).getD j 0 = M i j := by
  simp [qz, List.getD_eq_getElem?_getD, hj]
theorem vp (M : Tab) {R C i : Nat} (hi : i < R) : (z1 M R C).getD i [] = qz M C i := by
  simp [z1, List.getD_eq_getElem?_getD, hi]
theorem yV {R C k : Nat} (h : k < R * C) : 0 < C := by
  rcases Nat.eq_zero_or_pos C with rfl | h'
  · simp at h
  · exact h'
theorem Qf {R C k : Nat} (h : k < R * C) : k / C < R := (Nat.div_lt_iff_lt_mul (yV h)).2 h
theorem Zo {M N : Tab} {R C : Nat} (h : ∀ i j, i < R → j < C → M i j = N i j) : zW M R C = zW N R C := by
  refine List.map_congr_left fun k hk => h _ _ (Qf (List.mem_range.1 hk)) (Nat.mod_lt _ (yV (List.mem_range.1 hk)))
theorem yk {M N : Tab} {C i : Nat} (h : ∀ j, j < C → M i j = N i j) : qz M C i = qz N C i := List.map_congr_left fun j hj => h j (List.mem_range.1 hj)
theorem Zn {M N : Tab} {R C : Nat} (h : ∀ i j, i < R → j < C → M i j = N i j) : z1 M R C = z1 N R C := List.map_congr_left fun i hi => yk fun j hj => h i j (List.mem_range.1 hi) hj
theorem y7 {l : List Int} {R C : Nat} (hl : l.length = R * C) : zW (jj l C) R C = l := by
  refine List.ext_getElem (by rw [qn, hl]) fun k h1 h2 => ?_
  simp only [zW, jj, List.getElem_map, List.getElem_range]
  rw [Nat.mul_comm, Nat.div_add_mod]
  simp [List.getD_eq_getElem?_getD, h2]
theorem j9 (M : Tab) {R C i j : Nat} (hi : i < R) (hj : j < C) (v : Int) : (zW M R C).set (i * C + j) v = zW (upd M i j v) R C := by
  refine List.ext_getElem (by simp [zW]) fun k h1 h2 => ?_
  rw [List.getElem_set]
  simp only [zW, upd, List.getElem_map, List.getElem_range]
  by_cases c : i * C + j = k
  · subst c
    rw [if_pos rfl, if_pos ⟨vW hj, vN hj⟩]
  · rw [if_neg c, if_neg]
    rintro ⟨rfl, rfl⟩
    exact c (by rw [Nat.mul_comm]; exact Nat.div_add_mod k C)
theorem Z7 (M : Tab) {C i j : Nat} (hj : j < C) (v : Int) : (qz M C i).set j v = qz (upd M i j v) C i := by
  refine List.ext_getElem (by simp [qz]) fun k h1 h2 => ?_
  rw [List.getElem_set]
  simp only [qz, upd, List.getElem_map, List.getElem_range]
  by_cases c : j = k
  · subst c; simp
  · simp [c, show ¬ k = j from fun h => c h.symm]
theorem ZM (M N : Tab) {R C i : Nat} (hi : i < R) (h : ∀ a b, a ≠ i → N a b = M a b) : (z1 M R C).set i (qz N C i) = z1 N R C := by
  refine List.ext_getElem (by simp [z1]) fun k h1 h2 => ?_
  rw [List.getElem_set]
  simp only [z1, List.getElem_map, List.getElem_range]
  by_cases c : i = k
  · subst c; rw [if_pos rfl]
  · rw [if_neg c]; exact yk fun j _ => (h k j (Ne.symm c)).symm
theorem yA (M : Tab) {R C i j : Nat} (hi : i < R) (hj : j < C) (v : Int) : (z1 M R C).set i ((qz M C i).set j v) = z1 (upd M i j v) R C := by
  rw [Z7 M hj]
  exact ZM _ _ hi fun a b h => by unfold upd; rw [if_neg (fun c => h c.1)]
theorem yX (M : Tab) (R C : Nat) : (z1 M R C).flatten = zW M R C := by
  induction R with
  | zero => simp [z1, zW]
  | succ R ih =>
    have h1 : z1 M (R + 1) C = z1 M R C ++ [qz M C R] := by simp [z1, List.range_succ]
    rw [h1, List.flatten_append, ih, List.flatten_singleton]
    refine List.ext_getElem (by simp [zW, qz, Nat.succ_mul]) fun k h2 h3 => ?_
    rw [List.getElem_append]
    simp only [qn]
    split
    · simp [zW]
    · rename_i hk
      simp only [qn, Nat.succ_mul] at h3
      have hm : k - R * C < C := by omega
      obtain ⟨m, rfl⟩ : ∃ m, k = R * C + m := ⟨k - R * C, by omega⟩
      simp only [qz, zW, List.getElem_map, List.getElem_range, Nat.add_sub_cancel_left]
      rw [Nat.add_sub_cancel_left] at hm
      rw [vW hm, vN hm]
theorem Z9 (M : Tab) {R C t : Nat} (h : t ≤ R) : (z1 M R C).take t = z1 M t C := by
  rw [z1, ← List.map_take, List.take_range, Nat.min_eq_left h]; rfl
theorem yY (M : Tab) {R C t : Nat} (h : t ≤ R) : (zW M R C).take (t * C) = zW M t C := by
  rw [zW, ← List.map_take, List.take_range, Nat.min_eq_left (Nat.mul_le_mul_right _ h)]; rfl
def qH (F : (Nat → Int) → Nat → Int) (M : Tab) (j : Nat) : Tab := fun i c => if c = j then F (fun i => M i j) i else M i c
def qt (F : (Nat → Int) → Nat → Int) (M : Tab) : Tab := fun i c => F (fun i => M i c) i
theorem Z3 (F : (Nat → Int) → Nat → Int) (M : Tab) (n : Nat) : (List.range n).foldl (qH F) M = fun i c => if c < n then F (fun i => M i c) i else M i c := by
  induction n with
  | zero => funext i c; simp
  | succ n ih =>
    rw [List.range_succ, List.foldl_append, List.foldl_cons, List.foldl_nil, ih]
    funext i c
    unfold qH
    by_cases h1 : c = n
    · subst h1
      simp
    · by_cases h2 : c < n
      · simp [h1, h2, Nat.lt_succ_of_lt h2]
      · simp [h1, h2, show ¬ c < n + 1 by omega]
theorem j8 (F : (Nat → Int) → Nat → Int) (M : Tab) (R C : Nat) : zW ((List.range C).foldl (qH F) M) R C = zW (qt F M) R C := by
  rw [Z3]; exact Zo fun i j _ hj => by simp [hj, qt]
theorem vO (F : (Nat → Int) → Nat → Int) (M : Tab) (R C : Nat) : z1 ((List.range C).foldl (qH F) M) R C = z1 (qt F M) R C := by
  rw [Z3]; exact Zn fun i j _ hj => by simp [hj, qt]
def jm (a b : Nat) (f : Nat → Int) (i : Nat) : Int := if i = b then f a else if i = a then f b else f i
def jo (p : Int) (r : Nat) (x : Int) (f : Nat → Int) (i : Nat) : Int := if i = r then Int.tmod (f r * x) p else f i
def yD (p : Int) (r i0 : Nat) (g : Int) (f : Nat → Int) (i : Nat) : Int := if i = i0 then Int.tmod (f i0 + (p - g) * f r) p else f i
def qG (p : Int) (r col : Nat) (M : Tab) (i : Nat) : Tab := if i = r then M else qt (yD p r i (M i col)) M
def jZ (p : Int) (r col R : Nat) (M : Tab) : Tab := (List.range R).foldl (qG p r col) M
/-- The inverse of a number in a prime field. -/
def jU (p a : Int) : Int := ((a.toNat ^ (p.toNat - 2) % p.toNat : Nat) : Int)
def vG (p : Int) (R t col : Nat) (M : Tab) : Tab := jZ p t col R (qt (jo p t (jU p (M t col))) M)
/-- Where a column has a number that is not 0, from row t on. -/
def qi (M : Tab) (R t col : Nat) : Nat := ((List.range' t (R - t)).find? fun i => decide (M i col ≠ 0)).getD R
structure Red where
  t : Nat
  M : Tab
  ps : List Int
def qw (p : Int) (R : Nat) (s : Red) (j : Nat) : Red :=
  if qi s.M R s.t j < R then ⟨s.t + 1, vG p R s.t j (qt (jm s.t (qi s.M R s.t j)) s.M), s.ps ++ [(j : Int)]⟩ else s
def yN (p : Int) (R C : Nat) (M : Tab) : Red := (List.range C).foldl (qw p R) ⟨0, M, []⟩
def InF (p : Int) (R C : Nat) (M : Tab) : Prop := ∀ i j, i < R → j < C → 0 ≤ M i j ∧ M i j < p
theorem Z2 {x p : Int} (h : 0 ≤ x) (hp : 2 ≤ p) : 0 ≤ Int.tmod x p ∧ Int.tmod x p < p := by
  rw [Int.tmod_eq_emod_of_nonneg h]; exact ⟨Int.emod_nonneg _ (by omega), Int.emod_lt_of_pos _ (by omega)⟩
section
variable {p : Int} {R C : Nat} {M : Tab}
theorem InF.swap (h : InF p R C M) {a b : Nat} (ha : a < R) (hb : b < R) : InF p R C (qt (jm a b) M) := fun i j hi hj => by
  unfold qt jm
  split
  · exact h a j ha hj
  · split
    · exact h b j hb hj
    · exact h i j hi hj
theorem InF.scale (h : InF p R C M) (hp : 2 ≤ p) {r : Nat} (hr : r < R) {x : Int} (hx : 0 ≤ x) : InF p R C (qt (jo p r x) M) := fun i j hi hj => by
  unfold qt jo
  split
  · exact Z2 (Int.mul_nonneg (h r j hr hj).1 hx) hp
  · exact h i j hi hj
theorem InF.elim (h : InF p R C M) (hp : 2 ≤ p) {r i0 : Nat} (hr : r < R) (hi0 : i0 < R) {g : Int} (hg : 0 ≤ g ∧ g < p) : InF p R C (qt (yD p r i0 g) M) := fun i j hi hj => by
  unfold qt yD
  split
  · refine Z2 ?_ hp
    have h1 := (h i0 j hi0 hj).1
    have h2 := Int.mul_nonneg (show 0 ≤ p - g by omega) (h r j hr hj).1
    show 0 ≤ M i0 j + (p - g) * M r j
    exact Int.add_nonneg h1 h2
  · exact h i j hi hj
theorem InF.qG (h : InF p R C M) (hp : 2 ≤ p) {r col i : Nat} (hr : r < R) (hc : col < C) (hi : i < R) : InF p R C (qG p r col M i) := by
  unfold L.qG
  split
  · exact h
  · exact h.elim hp hr hi (h i col hi hc)
theorem InF.jZ (hp : 2 ≤ p) {r col : Nat} (hr : r < R) (hc : col < C) : ∀ n, n ≤ R → ∀ {M : Tab}, InF p R C M → InF p R C ((List.range n).foldl (L.qG p r col) M)
  | 0, _, _, h => h
  | n + 1, hn, M, h => by
    rw [List.range_succ, List.foldl_append]
    exact (InF.jZ hp hr hc n (by omega) h).qG hp hr hc (by omega)
theorem vo (p a : Int) : 0 ≤ jU p a := Int.natCast_nonneg _
theorem Z1 {p : Int} (hp : 2 ≤ p) (a : Int) : jU p a < p := by
  have h : a.toNat ^ (p.toNat - 2) % p.toNat < p.toNat := Nat.mod_lt _ (by omega)
  unfold jU
  omega
theorem InF.pivot (h : InF p R C M) (hp : 2 ≤ p) {r col : Nat} (hr : r < R) (hc : col < C) : InF p R C (vG p R r col M) := by
  unfold vG L.jZ
  exact InF.jZ hp hr hc R (Nat.le_refl _) (h.scale hp hr (vo _ _))
end
theorem vJ {M : Tab} {R a col : Nat} (h : a < R) : qi M R a col = if M a col = 0 then qi M R (a + 1) col else a := by
  unfold qi
  obtain ⟨m, hm⟩ : ∃ m, R - a = m + 1 := ⟨R - a - 1, by omega⟩
  rw [hm, List.range'_succ, List.find?_cons, show R - (a + 1) = m by omega]
  by_cases c : M a col = 0
  · simp [c]
  · simp [c]
theorem jL (M : Tab) (R col : Nat) : qi M R R col = R := by simp [qi]
theorem jE (M : Tab) (R col : Nat) : ∀ d a, a + d = R → a ≤ qi M R a col ∧ qi M R a col ≤ R ∧ (qi M R a col < R → M (qi M R a col) col ≠ 0) ∧ ∀ i, a ≤ i → i < qi M R a col → M i col = 0
  | 0, a, h => by
    obtain rfl : a = R := by omega
    rw [jL]; exact ⟨Nat.le_refl _, Nat.le_refl _, fun h => absurd h (by omega), fun i h1 h2 => absurd h1 (by omega)⟩
  | d + 1, a, h => by
    rw [vJ (show a < R by omega)]
    by_cases c : M a col = 0
    · rw [if_pos c]
      obtain ⟨h1, h2, h3, h4⟩ := jE M R col d (a + 1) (by omega)
      exact ⟨by omega, h2, h3, fun i h5 h6 => by
        rcases Nat.eq_or_lt_of_le h5 with rfl | h7
        · exact c
        · exact h4 i h7 h6⟩
    · rw [if_neg c]
      exact ⟨Nat.le_refl _, by omega, fun _ => c, fun i h5 h6 => absurd h5 (by omega)⟩
theorem Zy (M : Tab) {R C i : Nat} (hi : i < R) : ((zW M R C).take ((i + 1) * C)).drop (i * C) = qz M C i := by
  rw [yY M (show i + 1 ≤ R by omega)]
  refine List.ext_getElem (by simp [zW, qz, Nat.succ_mul]) fun k h1 h2 => ?_
  rw [qF] at h2
  simp only [List.getElem_drop, zW, qz, List.getElem_map, List.getElem_range, vW h2, vN h2]
theorem yT (M : Tab) (C i : Nat) : zW M i C ++ qz M C i = zW M (i + 1) C := by
  rw [← yX, ← yX, show z1 M (i + 1) C = z1 M i C ++ [qz M C i] by simp [z1, List.range_succ], List.flatten_append, List.flatten_singleton]
theorem Qa (M : Tab) (C i : Nat) : z1 M i C ++ [qz M C i] = z1 M (i + 1) C := by simp [z1, List.range_succ]
theorem Qg (M : Tab) {R C a b : Nat} (ha : a < R) (hb : b < R) : ((z1 M R C).set a (qz M C b)).set b (qz M C a) = z1 (qt (jm a b) M) R C := by
  refine List.ext_getElem (by simp [z1]) fun k h1 h2 => ?_
  rw [List.getElem_set, List.getElem_set]
  simp only [z1, List.getElem_map, List.getElem_range]
  by_cases c1 : b = k
  · subst c1; rw [if_pos rfl]; unfold qz qt jm; simp
  · rw [if_neg c1]
    by_cases c2 : a = k
    · subst c2; rw [if_pos rfl]; unfold qz qt jm; simp [Ne.symm c1]
    · rw [if_neg c2]; unfold qz qt jm; simp [Ne.symm c1, Ne.symm c2]
structure vM (p : Int) (R C : Nat) (s : Red) : Prop where
  t_le : s.t ≤ R
  inF : InF p R C s.M
  len : s.ps.length = s.t
theorem vM.step {p : Int} {R C : Nat} {s : Red} (h : vM p R C s) (hp : 2 ≤ p) {j : Nat} (hj : j < C) : vM p R C (qw p R s j) := by
  unfold qw
  split
  · rename_i hlt
    obtain ⟨h1, h2, h3, h4⟩ := jE s.M R j (R - s.t) s.t (by have := h.t_le; omega)
    exact ⟨by show s.t + 1 ≤ R; omega, (h.inF.swap (by omega) hlt).pivot hp (by omega) hj, by show (s.ps ++ [(j : Int)]).length = s.t + 1; rw [List.length_append, h.len]; rfl⟩
  · exact h
theorem Zk {p : Int} {R : Nat} {s : Red} (h : s.t = R) (j : Nat) : qw p R s j = s := by
  unfold qw
  rw [h, jL, if_neg (Nat.lt_irrefl _)]
theorem vR {p : Int} {R : Nat} : ∀ (l : List Nat) {s : Red}, s.t = R → l.foldl (qw p R) s = s
  | [], _, _ => rfl
  | j :: l, s, h => by rw [List.foldl_cons, Zk h, vR l h]
end Go.Proofs.Ytopkfhnnapncgaa.L
end
section
namespace Go.Proofs.Ytopkfhnnapncgaa.F
open Go.RowKit Go.Proofs.YtopkfhnnapncgaaW.PrintWords Go.Proofs.YtopkfhnnapncgaaW.PrintLast Go.Proofs.YtopkfhnnapncgaaW.PrintMore
attribute [local go_sem] jw jv jQ jN ji jg jx jy   -- for this text's walks alone
set_option linter.unusedVariables false
set_option linter.unusedSimpArgs false

def jl.f (a0_0 : Int) (a0_1 : Int) (a0_2 : Int) (l0_3 : List Int) (a1 : Int) (a2 : Int) : Option (Int) := if 0 ≤ (wrap64 ((wrap64 (a1 * a0_2)) + a2)) then (if (wrap64 ((wrap64 (a1 * a0_2)) + a2)) < (l0_3.length : Int) then (some (rd l0_3 (wrap64 ((wrap64 (a1 * a0_2)) + a2)))) else (none)) else (none)
theorem jl.calls (a0_0 : Int) (a0_1 : Int) (a0_2 : Int) (A0_3 : Option Addr) (c0_3 : Nat) (l0_3 : List Int) (a1 : Int) (a2 : Int) (r : Int) (w : World) (hr0_3 : Kd.C (Kd.int .i64) w A0_3 l0_3.length l0_3) (hc0_3 : l0_3.length ≤ c0_3) (h : jl.f a0_0 a0_1 a0_2 l0_3 a1 a2 = some r) :
  Calls Try.prog 40 #[.agg #[.int .i64 a0_0, .int .i64 a0_1, .int .i64 a0_2, .slice A0_3 l0_3.length c0_3], .int .i64 a1, .int .i64 a2] w fun e w' => e = .returned (.int .i64 r) ∧ Below w.heap.size w w' := by
 have hu27 := Try.underlying27
 have HR0_3 := Aside0.mk hr0_3
 have HC0_3 := Aside0.mk hc0_3
 clear hr0_3 hc0_3
 have HB := Aside0.mk (Below.refl w.heap.size w)
 have H : (if 0 ≤ (wrap64 ((wrap64 (a1 * a0_2)) + a2)) then (if (wrap64 ((wrap64 (a1 * a0_2)) + a2)) < (l0_3.length : Int) then (some (rd l0_3 (wrap64 ((wrap64 (a1 * a0_2)) + a2)))) else (none)) else (none)) = some r := h
 clear h
 obtain ⟨ji4, hji4⟩ : ∃ j_ : Int, (wrap64 ((wrap64 (a1 * a0_2)) + a2)) = j_ := ⟨_, rfl⟩
 replace H : (if 0 ≤ (ji4) then (if (ji4) < (l0_3.length : Int) then (some (rd l0_3 (ji4))) else (none)) else (none)) = some r := by first | (rw [hji4] at H; exact H) | (simp only [hji4] at H ⊢; exact H)
 have hji4w : (IntKind.i64.wrap ((wrap64 (a1 * a0_2)) + a2)) = ji4 := (zd _).trans hji4
 by_cases c5 : 0 ≤ (ji4)
 ·rw [if_pos c5] at H
  have c5b0 : decide (0 ≤ (ji4)) = true := decide_eq_true c5
  clear c5
  by_cases c6 : (ji4) < (l0_3.length : Int)
  ·rw [if_pos c6] at H
   have c6b0 : decide ((ji4) < (l0_3.length : Int)) = true := decide_eq_true c6
   clear c6
   obtain rfl := Option.some.inj H
   go_enter Try.func40, Try.ntmps40
   go_wp2_with (first | ((with_reducible refine zA (N := 3) rfl ?_); refine zz ?hg (N := 3) ?hd (cs := #[.int .i64 a0_0, .int .i64 a0_1, .int .i64 a0_2, .slice A0_3 l0_3.length c0_3]) (t := 27) ?hr ?_; (case hd => rfl); (case hg => rfl); (case hr => exact sqG); intro gb280 hg w7 hbox hb; have n0_ := Aside0.mk (zj sqB hb); have n1_ := Aside0.mk (hbox); have n2_ := Aside0.mk ((sqS hg : w.heap.size ≤ gb280)); have n3_ := Aside0.mk ((sqS hg : w.heap.size ≤ gb280)); clear HB; have HB := n0_; have BK280 := n1_; have GW280 := n2_; have GE280 := n3_; clear n0_ n1_ n2_ n3_; clear hb hbox hg; have hcz8_0 : w7.cell? ⟨gb280, 0, none⟩ = some (.int .i64 a0_0) := (zb BK280.out 0).trans rfl; have hcz8_1 : w7.cell? ⟨gb280, 1, none⟩ = some (.int .i64 a0_1) := (zb BK280.out 1).trans rfl; have hcz8_2 : w7.cell? ⟨gb280, 2, none⟩ = some (.int .i64 a0_2) := (zb BK280.out 2).trans rfl; have hcz8_3 : w7.cell? ⟨gb280, 3, none⟩ = some (.slice A0_3 l0_3.length c0_3) := (zb BK280.out 3).trans rfl; have hfz8_0 := za BK280.out 0; have hfz8_1 := za BK280.out 1; have hfz8_2 := za BK280.out 2; have hfz8_3 := za BK280.out 3; have p281 : 0 ≤ ((ji4) : Int) := of_decide_eq_true sqA; have q281 : (ji4) < (l0_3.length : Int) := of_decide_eq_true sqA; obtain ⟨ad281, e281, hx281_0⟩ := Kd.qh HR0_3.out (ji4) p281 q281; cases e281; replace hx281_0 := (HB.out.cell (World.block_lt_of_cell? w _ hx281_0)).trans hx281_0; replace p281 := eq_true p281; replace q281 := eq_true q281))
   go_ret
   exact ⟨by first | rfl | (simp [qK, qJ] <;> rfl) | (simp only [← hji4]; first | rfl | (simp [qK, qJ] <;> rfl)) | (simp [*, qK, qJ] <;> rfl), sqB⟩
  ·rw [if_neg c6] at H
   exact absurd H (by simp)
 ·rw [if_neg c5] at H
  exact absurd H (by simp)

end Go.Proofs.Ytopkfhnnapncgaa.F
end
