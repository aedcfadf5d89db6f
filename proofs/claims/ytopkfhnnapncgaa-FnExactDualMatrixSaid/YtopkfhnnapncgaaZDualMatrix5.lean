/- Several texts of this session in one: Fx9, Fx10, Base, Bits, Loops, LLists. Conditions: as each theorem says. -/
import Derived.Test.YtopkfhnnapncgaaZDualMatrix0
import Derived.Test.YtopkfhnnapncgaaZDualMatrix1
import Derived.Test.YtopkfhnnapncgaaZDualMatrix3
import Derived.Test.YtopkfhnnapncgaaZDualMatrix4
import Derived.Test.YtopkfhnnapncgaaZDualMatrix2
import Derived.Laws.BitsLemmas
set_option maxHeartbeats 8000000
set_option maxRecDepth 100000
section
namespace Go.Proofs.Ytopkfhnnapncgaa.F
open Go.RowKit Go.Proofs.YtopkfhnnapncgaaW.PrintWords Go.Proofs.YtopkfhnnapncgaaW.PrintLast Go.Proofs.YtopkfhnnapncgaaW.PrintMore
attribute [local go_sem] jG jE jY j8 jl jk jK jM   -- for this text's walks alone
set_option linter.unusedVariables false
set_option linter.unusedSimpArgs false

mutual
def zm.l0 : Nat → List Int → Int → Int → Int → Int → List Int → Int → Int → Int → List Int → Int → Int → Int → List Int → Option (Int × Int × Int × List Int × Bool)
 | 0, _, _, _, _, _, _, _, _, _, _, _, _, _, _ => none
 | k + 1, x5, x7, x381000, x381001, x381002, x381003, x393000, x393001, x393002, x393003, x397000, x397001, x397002, x397003 => if x7 < x381002 then ((qt.f k x5 x7).bind fun t397 => (if t397 = true then (zm.l0 k x5 (wrap64 (x7 + 1)) x381000 x381001 x381002 x381003 x393000 x393001 x393002 x393003 x397000 x397001 x397002 x397003) else (if 0 ≤ x381002 then (if (x381002 : Int).toNat ≤ 35184372088832 then ((some (List.replicate (x381002 : Int).toNat 0 : List Int)).bind fun y398 => (if 0 ≤ x7 then (if x7 < (y398.length : Int) then (zm.l1 k x5 x7 (y398.set (x7 : Int).toNat 1) x5 (x5.length : Int) 0 x381000 x381001 x381002 x381003 x393000 x393001 x393002 x393003 x397000 x397001 x397002 x397003) else (none)) else (none))) else (none)) else (none)))) else (some (x397000, x397001, x397002, x397003, true))
def zm.l1 : Nat → List Int → Int → List Int → List Int → Int → Int → Int → Int → Int → List Int → Int → Int → Int → List Int → Int → Int → Int → List Int → Option (Int × Int × Int × List Int × Bool)
 | 0, _, _, _, _, _, _, _, _, _, _, _, _, _, _, _, _, _, _ => none
 | k + 1, x5, x7, x8, x46, x47, x48, x381000, x381001, x381002, x381003, x393000, x393001, x393002, x393003, x397000, x397001, x397002, x397003 => if x48 < x47 then (if 0 ≤ x48 then (if x48 < (x46.length : Int) then ((q6.f x393000 x393001 x393002 x393003 x48 x7).bind fun t403 => (if x381000 = 0 then (none) else (if 0 ≤ (rd x46 x48) then (if (rd x46 x48) < (x8.length : Int) then (zm.l1 k x5 x7 (x8.set ((rd x46 x48) : Int).toNat (Int.tmod (wrap64 (x381000 - t403)) x381000)) x46 x47 (wrap64 (x48 + 1)) x381000 x381001 x381002 x381003 x393000 x393001 x393002 x393003 x397000 x397001 x397002 x397003) else (none)) else (none)))) else (none)) else (none)) else (if x397003.length + x8.length < 17592186044416 then (zm.l0 k x5 (wrap64 (x7 + 1)) x381000 x381001 x381002 x381003 x393000 x393001 x393002 x393003 x397000 x397001 x397002 (x397003 ++ x8)) else (none))
end
def zm.f (k : Nat) (a0_0 : Int) (a0_1 : Int) (a0_2 : Int) (l0_3 : List Int) : Option (Int × Int × Int × List Int × Bool) := (zv.f k a0_0 a0_1 a0_2 l0_3).bind fun t382 => (if t382 = true then ((zd.f k a0_0 a0_1 a0_2 l0_3).bind fun bt383 => (zm.l0 k bt383.2.2.2.2 0 a0_0 a0_1 a0_2 l0_3 bt383.1 bt383.2.1 bt383.2.2.1 bt383.2.2.2.1 a0_0 (wrap64 (a0_2 - (bt383.2.2.2.2.length : Int))) a0_2 (([] : List Int)))) else (some (0, 0, 0, ([] : List Int), false)))
def zm.T14 : Bool × List (List Nat × List Nat) := (true, [([], []), ([], []), ([], []), ([2], [2]), ([], []), ([], []), ([], []), ([4, 5, 6], [4, 5, 6]), ([3, 7], [3, 7]), ([], []), ([9], [9]), ([8, 10], [8, 10]), ([0, 1, 0, 1, 2, 3, 4, 5, 6, 7, 8, 9, 10, 11], [0, 1]), ([12, 11, 7, 0, 1, 2, 3, 4, 5, 6, 7, 8, 9, 10, 11], [11, 12])])
def zm.B14 : List Nat := [0, 0, 0, 4, 0, 0, 0, 112, 252, 0, 512, 2044, 4095, 8191]
theorem zm.zaA : jQ .any (opsOf Try.f35 14) = zm.T14 := by kernel_rfl
theorem zm.Y1 : jf zm.T14.2 zm.B14 = true := by kernel_rfl
theorem zm.calls (k : Nat) (a0_0 : Int) (a0_1 : Int) (a0_2 : Int) (A0_3 : Option Addr) (c0_3 : Nat) (l0_3 : List Int) (r1 : Int) (r2 : Int) (r3 : Int) (r4 : List Int) (r5 : Bool) (w : World) (hr0_3 : Kd.C (Kd.int .i64) w A0_3 l0_3.length l0_3) (hc0_3 : l0_3.length ≤ c0_3) (h : zm.f k a0_0 a0_1 a0_2 l0_3 = some (r1, r2, r3, r4, r5)) :
  Calls Try.prog 35 #[.agg #[.int .i64 a0_0, .int .i64 a0_1, .int .i64 a0_2, .slice A0_3 l0_3.length c0_3]] w fun e w' => ∃ v3_ : Value, e = .returned (.tuple #[.agg #[.int .i64 r1, .int .i64 r2, .int .i64 r3, v3_], .bool r5]) ∧ Kd.R (Kd.int .i64) 3 w' w.heap.size (fun _ => True) v3_ r4 ∧ Below w.heap.size w w' := by
 have hu27 := Try.underlying27
 have HR0_3 := Aside0.mk hr0_3
 have HC0_3 := Aside0.mk hc0_3
 clear hr0_3 hc0_3
 have HB := Aside0.mk (Below.refl w.heap.size w)
 have H : ((zv.f k a0_0 a0_1 a0_2 l0_3).bind fun t382 => (if t382 = true then ((zd.f k a0_0 a0_1 a0_2 l0_3).bind fun bt383 => (zm.l0 k bt383.2.2.2.2 0 a0_0 a0_1 a0_2 l0_3 bt383.1 bt383.2.1 bt383.2.2.1 bt383.2.2.2.1 a0_0 (wrap64 (a0_2 - (bt383.2.2.2.2.length : Int))) a0_2 (([] : List Int)))) else (some (0, 0, 0, ([] : List Int), false)))) = some (r1, r2, r3, r4, r5) := h
 clear h
 replace H := Option.bind_eq_some_iff.mp H
 obtain ⟨t382, A20, H⟩ := H
 replace H : (if t382 = true then ((zd.f k a0_0 a0_1 a0_2 l0_3).bind fun bt383 => (zm.l0 k bt383.2.2.2.2 0 a0_0 a0_1 a0_2 l0_3 bt383.1 bt383.2.1 bt383.2.2.1 bt383.2.2.2.1 a0_0 (wrap64 (a0_2 - (bt383.2.2.2.2.length : Int))) a0_2 (([] : List Int)))) else (some (0, 0, 0, ([] : List Int), false))) = some (r1, r2, r3, r4, r5) := H
 have A2 := Aside0.mk A20
 clear A20
 by_cases c3 : t382 = true
 ·subst c3
  have H1 : ((zd.f k a0_0 a0_1 a0_2 l0_3).bind fun bt383 => (zm.l0 k bt383.2.2.2.2 0 a0_0 a0_1 a0_2 l0_3 bt383.1 bt383.2.1 bt383.2.2.1 bt383.2.2.2.1 a0_0 (wrap64 (a0_2 - (bt383.2.2.2.2.length : Int))) a0_2 (([] : List Int)))) = some (r1, r2, r3, r4, r5) := by rw [if_pos rfl] at H; exact H
  clear H
  have H := H1
  clear H1
  replace H := Option.bind_eq_some_iff.mp H
  obtain ⟨⟨t383, t384, t385, t386, t389⟩, A40, H⟩ := H
  replace H : (zm.l0 k t389 0 a0_0 a0_1 a0_2 l0_3 t383 t384 t385 t386 a0_0 (wrap64 (a0_2 - (t389.length : Int))) a0_2 (([] : List Int))) = some (r1, r2, r3, r4, r5) := H
  have A4 := Aside0.mk A40
  clear A40
  obtain ⟨y393, hy393⟩ : ∃ y_ : List Int, y_ = (([] : List Int)) := ⟨_, rfl⟩
  replace H : (zm.l0 k t389 0 a0_0 a0_1 a0_2 l0_3 t383 t384 t385 t386 a0_0 (wrap64 (a0_2 - (t389.length : Int))) a0_2 y393) = some (r1, r2, r3, r4, r5) := by first | (rw [hy393]; with_reducible exact H) | (have H2_ := (Option.bind_some _ _).symm.trans H; rw [hy393]; with_reducible exact H2_) | (have H2_ := (Option.bind_some _ _).symm.trans H; with_reducible exact H2_) | with_reducible exact H | (rw [hy393]; exact H) | exact H
  have Ny393 := Aside0.mk hy393
  clear hy393
  have H' := Aside0.mk H
  clear H
  go_enter Try.func35, Try.ntmps35
  go_wp2_with (first | ((with_reducible refine zC (N := 1) rfl ?_); refine zD ?hg (N := 1) ?hd (cs := #[.int .i64 a0_0, .int .i64 a0_1, .int .i64 a0_2, .slice A0_3 l0_3.length c0_3]) (t := 27) ?hr ?_; (case hd => rfl); (case hg => rfl); (case hr => exact sqG); intro gb380 hg w5 hbox hb; have n0_ := Aside0.mk (zg sqB hb); have n1_ := Aside0.mk (hbox); have n2_ := Aside0.mk ((sqS hg : w.heap.size ≤ gb380)); have n3_ := Aside0.mk ((sqS hg : w.heap.size ≤ gb380)); clear HB; have HB := n0_; have BK380 := n1_; have GW380 := n2_; have GE380 := n3_; clear n0_ n1_ n2_ n3_; clear hb hbox hg) | ((with_reducible refine zC (N := 2) rfl ?_); refine zD ?hg (N := 2) ?hd (cs := #[.int .i64 0, .int .i64 0, .int .i64 0, .slice none 0 0]) (t := 27) ?hr ?_; (case hd => rfl); (case hg => rfl); (case hr => exact sqG); intro gb381 hg w6 hbox hb; have n0_ := Aside0.mk (ze (g := gb380) (o := .cells #[.int .i64 a0_0, .int .i64 a0_1, .int .i64 a0_2, .slice A0_3 l0_3.length c0_3] 27 (0, 0)) (sqK BK380.out) hb); have n1_ := Aside0.mk (zg sqB hb); have n2_ := Aside0.mk (hbox); have n3_ := Aside0.mk ((sqS hg : w.heap.size ≤ gb381)); have n4_ := Aside0.mk ((sqS hg : w.heap.size ≤ gb381)); have n5_ := Aside0.mk ((by rw [hg]; exact Nat.ne_of_lt (zI (g := gb380) (o := .cells #[.int .i64 a0_0, .int .i64 a0_1, .int .i64 a0_2, .slice A0_3 l0_3.length c0_3] 27 (0, 0)) (sqK BK380.out)) : gb380 ≠ gb381)); have n6_ := Aside0.mk ((by rw [hg]; exact Nat.ne_of_gt (zI (g := gb380) (o := .cells #[.int .i64 a0_0, .int .i64 a0_1, .int .i64 a0_2, .slice A0_3 l0_3.length c0_3] 27 (0, 0)) (sqK BK380.out)) : gb381 ≠ gb380)); clear BK380; clear HB; have BK380 := n0_; have HB := n1_; have BK381 := n2_; have GW381 := n3_; have GE381 := n4_; have NB380_381 := n5_; have NB381_380 := n6_; clear n0_ n1_ n2_ n3_ n4_ n5_ n6_; clear hb hbox hg; have hnb7 := NB380_381.out; have hnc7 := NB381_380.out; have hcz8_0 : w6.cell? ⟨gb380, 0, none⟩ = some (.int .i64 a0_0) := (zb BK380.out 0).trans rfl; have hcz8_1 : w6.cell? ⟨gb380, 1, none⟩ = some (.int .i64 a0_1) := (zb BK380.out 1).trans rfl; have hcz8_2 : w6.cell? ⟨gb380, 2, none⟩ = some (.int .i64 a0_2) := (zb BK380.out 2).trans rfl; have hcz8_3 : w6.cell? ⟨gb380, 3, none⟩ = some (.slice A0_3 l0_3.length c0_3) := (zb BK380.out 3).trans rfl; have hfz8_0 := za BK380.out 0; have hfz8_1 := za BK380.out 1; have hfz8_2 := za BK380.out 2; have hfz8_3 := za BK380.out 3) | ((with_reducible refine zp (f := 39) rfl ?_); refine zP (some 12) rfl rfl Try.func39 (by kernel_rfl) rfl #[.agg #[.int .i64 a0_0, .int .i64 a0_1, .int .i64 a0_2, .slice A0_3 l0_3.length c0_3]] rfl sqM ?_; (with_reducible refine (zv.calls k a0_0 a0_1 a0_2 _ _ l0_3 true _ ?side1 ?side2 A2.out).mono ?_); (case side1 => exact sqC (Kd.z1 HR0_3.out HB.out)); (case side2 => exact HC0_3.out); rintro e w9 ⟨rfl, hb⟩; refine ⟨_, rfl, ?_⟩; have n0_ := Aside0.mk (ze (g := gb380) (o := .cells #[.int .i64 a0_0, .int .i64 a0_1, .int .i64 a0_2, .slice A0_3 l0_3.length c0_3] 27 (0, 0)) (sqK BK380.out) hb); have n1_ := Aside0.mk (ze (g := gb381) (o := .cells #[.int .i64 0, .int .i64 0, .int .i64 0, .slice none 0 0] 27 (0, 0)) (sqK BK381.out) hb); have n2_ := Aside0.mk (zg sqB hb); clear BK380; clear BK381; clear HB; have BK380 := n0_; have BK381 := n1_; have HB := n2_; clear n0_ n1_ n2_; (try clear hb); (try clear hb2); (try clear hk); (try clear hi); have hcz10_0 : w9.cell? ⟨gb380, 0, none⟩ = some (.int .i64 a0_0) := (zb BK380.out 0).trans rfl; have hcz10_1 : w9.cell? ⟨gb380, 1, none⟩ = some (.int .i64 a0_1) := (zb BK380.out 1).trans rfl; have hcz10_2 : w9.cell? ⟨gb380, 2, none⟩ = some (.int .i64 a0_2) := (zb BK380.out 2).trans rfl; have hcz10_3 : w9.cell? ⟨gb380, 3, none⟩ = some (.slice A0_3 l0_3.length c0_3) := (zb BK380.out 3).trans rfl; have hfz10_0 := za BK380.out 0; have hfz10_1 := za BK380.out 1; have hfz10_2 := za BK380.out 2; have hfz10_3 := za BK380.out 3) | ((with_reducible refine zp (f := 58) rfl ?_); refine zP (some 17) rfl rfl Try.func58 (by kernel_rfl) rfl #[.agg #[.int .i64 a0_0, .int .i64 a0_1, .int .i64 a0_2, .slice A0_3 l0_3.length c0_3]] rfl sqM ?_; (with_reducible refine (zd.calls k a0_0 a0_1 a0_2 _ _ l0_3 t383 t384 t385 t386 t389 _ ?side1 ?side2 A4.out).mono ?_); (case side1 => exact sqC (Kd.z1 HR0_3.out HB.out)); (case side2 => exact HC0_3.out); rintro e w11 ⟨v387, v390, rfl, ho0, ho1, hb⟩; refine ⟨_, rfl, ?_⟩; have n0_ := Aside0.mk (Kd.qo ho0 (zJ sqB)); have n1_ := Aside0.mk (Kd.qo ho1 (zJ sqB)); have n2_ := Aside0.mk (ze (g := gb380) (o := .cells #[.int .i64 a0_0, .int .i64 a0_1, .int .i64 a0_2, .slice A0_3 l0_3.length c0_3] 27 (0, 0)) (sqK BK380.out) hb); have n3_ := Aside0.mk (ze (g := gb381) (o := .cells #[.int .i64 0, .int .i64 0, .int .i64 0, .slice none 0 0] 27 (0, 0)) (sqK BK381.out) hb); have n4_ := Aside0.mk (zg sqB hb); clear BK380; clear BK381; clear HB; have HO388 := n0_; have HO391 := n1_; have BK380 := n2_; have BK381 := n3_; have HB := n4_; clear n0_ n1_ n2_ n3_ n4_; (try clear hb); (try clear hb2); (try clear hk); (try clear hi); (try clear ho0); (try clear ho1)) | ((with_reducible refine zC (N := 4) rfl ?_); refine zD ?hg (N := 4) ?hd (cs := #[.int .i64 0, .int .i64 0, .int .i64 0, .slice none 0 0]) (t := 27) ?hr ?_; (case hd => rfl); (case hg => rfl); (case hr => exact sqG); intro gb392 hg w12 hbox hb; have n0_ := Aside0.mk (Kd.zG (sqR HO388.out) hb); have n1_ := Aside0.mk (Kd.zG (sqR HO391.out) hb); have n2_ := Aside0.mk (ze (g := gb380) (o := .cells #[.int .i64 a0_0, .int .i64 a0_1, .int .i64 a0_2, .slice A0_3 l0_3.length c0_3] 27 (0, 0)) (sqK BK380.out) hb); have n3_ := Aside0.mk (ze (g := gb381) (o := .cells #[.int .i64 0, .int .i64 0, .int .i64 0, .slice none 0 0] 27 (0, 0)) (sqK BK381.out) hb); have n4_ := Aside0.mk (zg sqB hb); have n5_ := Aside0.mk (hbox); have n6_ := Aside0.mk ((sqS hg : w.heap.size ≤ gb392)); have n7_ := Aside0.mk ((sqS hg : w.heap.size ≤ gb392)); have n8_ := Aside0.mk ((by rw [hg]; exact Nat.ne_of_lt (zI (g := gb380) (o := .cells #[.int .i64 a0_0, .int .i64 a0_1, .int .i64 a0_2, .slice A0_3 l0_3.length c0_3] 27 (0, 0)) (sqK BK380.out)) : gb380 ≠ gb392)); have n9_ := Aside0.mk ((by rw [hg]; exact Nat.ne_of_gt (zI (g := gb380) (o := .cells #[.int .i64 a0_0, .int .i64 a0_1, .int .i64 a0_2, .slice A0_3 l0_3.length c0_3] 27 (0, 0)) (sqK BK380.out)) : gb392 ≠ gb380)); have n10_ := Aside0.mk ((by rw [hg]; exact Nat.ne_of_lt (zI (g := gb381) (o := .cells #[.int .i64 0, .int .i64 0, .int .i64 0, .slice none 0 0] 27 (0, 0)) (sqK BK381.out)) : gb381 ≠ gb392)); have n11_ := Aside0.mk ((by rw [hg]; exact Nat.ne_of_gt (zI (g := gb381) (o := .cells #[.int .i64 0, .int .i64 0, .int .i64 0, .slice none 0 0] 27 (0, 0)) (sqK BK381.out)) : gb392 ≠ gb381)); clear HO388; clear HO391; clear BK380; clear BK381; clear HB; have HO388 := n0_; have HO391 := n1_; have BK380 := n2_; have BK381 := n3_; have HB := n4_; have BK392 := n5_; have GW392 := n6_; have GE392 := n7_; have NB380_392 := n8_; have NB392_380 := n9_; have NB381_392 := n10_; have NB392_381 := n11_; clear n0_ n1_ n2_ n3_ n4_ n5_ n6_ n7_ n8_ n9_ n10_ n11_; clear hb hbox hg; have hnb13 := NB392_380.out; have hnc13 := NB380_392.out; have hnb14 := NB392_381.out; have hnc14 := NB381_392.out; have hcz15_0 : w12.cell? ⟨gb392, 0, none⟩ = some (.int .i64 0) := (zb BK392.out 0).trans rfl; have hcz15_1 : w12.cell? ⟨gb392, 1, none⟩ = some (.int .i64 0) := (zb BK392.out 1).trans rfl; have hcz15_2 : w12.cell? ⟨gb392, 2, none⟩ = some (.int .i64 0) := (zb BK392.out 2).trans rfl; have hcz15_3 : w12.cell? ⟨gb392, 3, none⟩ = some (.slice none 0 0) := (zb BK392.out 3).trans rfl; have hfz15_0 := za BK392.out 0; have hfz15_1 := za BK392.out 1; have hfz15_2 := za BK392.out 2; have hfz15_3 := za BK392.out 3; obtain ⟨Ao16, co16, eo16⟩ := Kd.zU HO388.out; subst eo16; have hcz17_0 : w12.cell? ⟨gb380, 0, none⟩ = some (.int .i64 a0_0) := (zb BK380.out 0).trans rfl; have hcz17_1 : w12.cell? ⟨gb380, 1, none⟩ = some (.int .i64 a0_1) := (zb BK380.out 1).trans rfl; have hcz17_2 : w12.cell? ⟨gb380, 2, none⟩ = some (.int .i64 a0_2) := (zb BK380.out 2).trans rfl; have hcz17_3 : w12.cell? ⟨gb380, 3, none⟩ = some (.slice A0_3 l0_3.length c0_3) := (zb BK380.out 3).trans rfl; have hfz17_0 := za BK380.out 0; have hfz17_1 := za BK380.out 1; have hfz17_2 := za BK380.out 2; have hfz17_3 := za BK380.out 3; obtain ⟨Ao18, co18, eo18⟩ := Kd.zU HO391.out; subst eo18) | ((with_reducible refine zC (N := 29) rfl ?_); refine Kd.yC (Kd.int .i64) _ 3 ?hg (N := 29) ?hd (xs := ([] : List Int)) (inner := []) (ok := fun _ => True) (okp := fun _ => True) ?hr ?hp (fun _ hk => hk) trivial (Below.refl _ _) (Nat.le_refl _) (by simp) ?_; (case hd => rfl); (case hg => rfl); (case hr => exact sqG); (case hp => exact (qy.none _ _)); intro v394 w19 ho20 hb hg_ hnew_; clear hg_ hnew_; (first | rw [← Ny393.out] at ho20 | (simp only [Int.reduceToNat] at ho20; rw [← Ny393.out] at ho20)); have n0_ := Aside0.mk (Kd.qg (by refine sqR ?_; exact (Kd.zo (Kd.zj (p := ⟨gb392, 3, none⟩) (Kd.zj (p := ⟨gb392, 2, none⟩) (Kd.zj (p := ⟨gb392, 1, none⟩) (Kd.zj (p := ⟨gb392, 0, none⟩) (Kd.zF HO388.out BK392.out (by decide)) (fun _ hk => hk.2) (.int .i64 t383)) (fun _ hk => hk.2) (.int .i64 t384)) (fun _ hk => hk.2) (.int .i64 t385)) (fun _ hk => hk.2) (.slice Ao16 t386.length co16)) (fun _ h_ => h_.1))) (Kd.qC ho20) hb); have n1_ := Aside0.mk (Kd.qg (by refine sqR ?_; exact (Kd.zo (Kd.zj (p := ⟨gb392, 3, none⟩) (Kd.zj (p := ⟨gb392, 2, none⟩) (Kd.zj (p := ⟨gb392, 1, none⟩) (Kd.zj (p := ⟨gb392, 0, none⟩) (Kd.zF HO391.out BK392.out (by decide)) (fun _ hk => hk.2) (.int .i64 t383)) (fun _ hk => hk.2) (.int .i64 t384)) (fun _ hk => hk.2) (.int .i64 t385)) (fun _ hk => hk.2) (.slice Ao16 t386.length co16)) (fun _ h_ => h_.1))) (Kd.qC ho20) hb); have n2_ := Aside0.mk (Kd.qo (Kd.qG (Kd.qG ho20 (Kd.jg (by refine sqR ?_; exact (Kd.zo (Kd.zj (p := ⟨gb392, 3, none⟩) (Kd.zj (p := ⟨gb392, 2, none⟩) (Kd.zj (p := ⟨gb392, 1, none⟩) (Kd.zj (p := ⟨gb392, 0, none⟩) (Kd.zF HO388.out BK392.out (by decide)) (fun _ hk => hk.2) (.int .i64 t383)) (fun _ hk => hk.2) (.int .i64 t384)) (fun _ hk => hk.2) (.int .i64 t385)) (fun _ hk => hk.2) (.slice Ao16 t386.length co16)) (fun _ h_ => h_.1))))) (Kd.jg (by refine sqR ?_; exact (Kd.zo (Kd.zj (p := ⟨gb392, 3, none⟩) (Kd.zj (p := ⟨gb392, 2, none⟩) (Kd.zj (p := ⟨gb392, 1, none⟩) (Kd.zj (p := ⟨gb392, 0, none⟩) (Kd.zF HO391.out BK392.out (by decide)) (fun _ hk => hk.2) (.int .i64 t383)) (fun _ hk => hk.2) (.int .i64 t384)) (fun _ hk => hk.2) (.int .i64 t385)) (fun _ hk => hk.2) (.slice Ao16 t386.length co16)) (fun _ h_ => h_.1))))) (zJ sqB)); have n3_ := Aside0.mk (ze (g := gb380) (o := .cells #[.int .i64 a0_0, .int .i64 a0_1, .int .i64 a0_2, .slice A0_3 l0_3.length c0_3] 27 (0, 0)) (by refine sqK ?_; refine zi ?_ NB380_392.out _; refine sqK ?_; refine zi ?_ NB380_392.out _; refine sqK ?_; refine zi ?_ NB380_392.out _; refine sqK ?_; refine zi ?_ NB380_392.out _; refine sqK ?_; exact BK380.out) hb); have n4_ := Aside0.mk (ze (g := gb381) (o := .cells #[.int .i64 0, .int .i64 0, .int .i64 0, .slice none 0 0] 27 (0, 0)) (by refine sqK ?_; refine zi ?_ NB381_392.out _; refine sqK ?_; refine zi ?_ NB381_392.out _; refine sqK ?_; refine zi ?_ NB381_392.out _; refine sqK ?_; refine zi ?_ NB381_392.out _; refine sqK ?_; exact BK381.out) hb); have n5_ := Aside0.mk (ze (g := gb392) (o := .cells #[.int .i64 t383, .int .i64 t384, .int .i64 t385, .slice Ao16 t386.length co16] 27 (0, 0)) (by refine sqK ?_; refine zy (cs := #[.int .i64 t383, .int .i64 t384, .int .i64 t385, .slice none 0 0]) ?_ 3 _ rfl; refine sqK ?_; refine zy (cs := #[.int .i64 t383, .int .i64 t384, .int .i64 0, .slice none 0 0]) ?_ 2 _ rfl; refine sqK ?_; refine zy (cs := #[.int .i64 t383, .int .i64 0, .int .i64 0, .slice none 0 0]) ?_ 1 _ rfl; refine sqK ?_; refine zy (cs := #[.int .i64 0, .int .i64 0, .int .i64 0, .slice none 0 0]) ?_ 0 _ rfl; refine sqK ?_; exact BK392.out) hb); have n6_ := Aside0.mk (zg sqB hb); clear HO388; clear HO391; clear BK380; clear BK381; clear BK392; clear HB; have HO388 := n0_; have HO391 := n1_; have HO395 := n2_; have BK380 := n3_; have BK381 := n4_; have BK392 := n5_; have HB := n6_; clear n0_ n1_ n2_ n3_ n4_ n5_ n6_; clear hb ho20; obtain ⟨Ao21, co21, eo21⟩ := Kd.zU HO395.out; subst eo21) | ((with_reducible refine zC (N := 6) rfl ?_); refine zD ?hg (N := 6) ?hd (cs := #[.int .i64 0, .int .i64 0, .int .i64 0, .slice none 0 0]) (t := 27) ?hr ?_; (case hd => rfl); (case hg => rfl); (case hr => exact sqG); intro gb396 hg w22 hbox hb; have n0_ := Aside0.mk (Kd.zG (sqR HO388.out) hb); have n1_ := Aside0.mk (Kd.zG (sqR HO391.out) hb); have n2_ := Aside0.mk (Kd.zG (sqR HO395.out) hb); have n3_ := Aside0.mk (ze (g := gb380) (o := .cells #[.int .i64 a0_0, .int .i64 a0_1, .int .i64 a0_2, .slice A0_3 l0_3.length c0_3] 27 (0, 0)) (sqK BK380.out) hb); have n4_ := Aside0.mk (ze (g := gb381) (o := .cells #[.int .i64 0, .int .i64 0, .int .i64 0, .slice none 0 0] 27 (0, 0)) (sqK BK381.out) hb); have n5_ := Aside0.mk (ze (g := gb392) (o := .cells #[.int .i64 t383, .int .i64 t384, .int .i64 t385, .slice Ao16 t386.length co16] 27 (0, 0)) (sqK BK392.out) hb); have n6_ := Aside0.mk (zg sqB hb); have n7_ := Aside0.mk (hbox); have n8_ := Aside0.mk ((sqS hg : w.heap.size ≤ gb396)); have n9_ := Aside0.mk ((sqS hg : w.heap.size ≤ gb396)); have n10_ := Aside0.mk ((by rw [hg]; exact Nat.ne_of_lt (zI (g := gb380) (o := .cells #[.int .i64 a0_0, .int .i64 a0_1, .int .i64 a0_2, .slice A0_3 l0_3.length c0_3] 27 (0, 0)) (sqK BK380.out)) : gb380 ≠ gb396)); have n11_ := Aside0.mk ((by rw [hg]; exact Nat.ne_of_gt (zI (g := gb380) (o := .cells #[.int .i64 a0_0, .int .i64 a0_1, .int .i64 a0_2, .slice A0_3 l0_3.length c0_3] 27 (0, 0)) (sqK BK380.out)) : gb396 ≠ gb380)); have n12_ := Aside0.mk ((by rw [hg]; exact Nat.ne_of_lt (zI (g := gb381) (o := .cells #[.int .i64 0, .int .i64 0, .int .i64 0, .slice none 0 0] 27 (0, 0)) (sqK BK381.out)) : gb381 ≠ gb396)); have n13_ := Aside0.mk ((by rw [hg]; exact Nat.ne_of_gt (zI (g := gb381) (o := .cells #[.int .i64 0, .int .i64 0, .int .i64 0, .slice none 0 0] 27 (0, 0)) (sqK BK381.out)) : gb396 ≠ gb381)); have n14_ := Aside0.mk ((by rw [hg]; exact Nat.ne_of_lt (zI (g := gb392) (o := .cells #[.int .i64 t383, .int .i64 t384, .int .i64 t385, .slice Ao16 t386.length co16] 27 (0, 0)) (sqK BK392.out)) : gb392 ≠ gb396)); have n15_ := Aside0.mk ((by rw [hg]; exact Nat.ne_of_gt (zI (g := gb392) (o := .cells #[.int .i64 t383, .int .i64 t384, .int .i64 t385, .slice Ao16 t386.length co16] 27 (0, 0)) (sqK BK392.out)) : gb396 ≠ gb392)); clear HO388; clear HO391; clear HO395; clear BK380; clear BK381; clear BK392; clear HB; have HO388 := n0_; have HO391 := n1_; have HO395 := n2_; have BK380 := n3_; have BK381 := n4_; have BK392 := n5_; have HB := n6_; have BK396 := n7_; have GW396 := n8_; have GE396 := n9_; have NB380_396 := n10_; have NB396_380 := n11_; have NB381_396 := n12_; have NB396_381 := n13_; have NB392_396 := n14_; have NB396_392 := n15_; clear n0_ n1_ n2_ n3_ n4_ n5_ n6_ n7_ n8_ n9_ n10_ n11_ n12_ n13_ n14_ n15_; clear hb hbox hg; have hnb23 := NB396_380.out; have hnc23 := NB380_396.out; have hnb24 := NB396_381.out; have hnc24 := NB381_396.out; have hnb25 := NB396_392.out; have hnc25 := NB392_396.out; have hcz26_0 : w22.cell? ⟨gb396, 0, none⟩ = some (.int .i64 0) := (zb BK396.out 0).trans rfl; have hcz26_1 : w22.cell? ⟨gb396, 1, none⟩ = some (.int .i64 0) := (zb BK396.out 1).trans rfl; have hcz26_2 : w22.cell? ⟨gb396, 2, none⟩ = some (.int .i64 0) := (zb BK396.out 2).trans rfl; have hcz26_3 : w22.cell? ⟨gb396, 3, none⟩ = some (.slice none 0 0) := (zb BK396.out 3).trans rfl; have hfz26_0 := za BK396.out 0; have hfz26_1 := za BK396.out 1; have hfz26_2 := za BK396.out 2; have hfz26_3 := za BK396.out 3))
  go_loopg [7] k (fun kq v7 w' => ∃ (x7_1 : Int) (x393003_1 : List Int) (x397003_1 : List Int) (u393003 : Value) (u397003 : Value), v7 = .int .i64 x7_1 ∧ Aside0 (zm.l0 kq t389 x7_1 a0_0 a0_1 a0_2 l0_3 t383 t384 t385 x393003_1 a0_0 (wrap64 (a0_2 - (t389.length : Int))) a0_2 x397003_1 = some (r1, r2, r3, r4, r5)) ∧ Aside0 (kq ≤ k) ∧ Aside0 (Kd.R (Kd.int .i64) 3 w' w.heap.size (fun k_ => some k_ ≠ (u393003 : Value).ownBlock ∧ some k_ ≠ (u397003 : Value).ownBlock) (.slice Ao18 t389.length co18) t389) ∧ Aside0 (Kd.R (Kd.int .i64) 3 w' w.heap.size (fun k_ => some k_ ≠ ((.slice Ao18 t389.length co18) : Value).ownBlock ∧ some k_ ≠ (u397003 : Value).ownBlock) u393003 x393003_1) ∧ Aside0 (Kd.R (Kd.int .i64) 3 w' w.heap.size (fun k_ => some k_ ≠ ((.slice Ao18 t389.length co18) : Value).ownBlock ∧ some k_ ≠ (u393003 : Value).ownBlock) u397003 x397003_1) ∧ Aside0 (w'.heap[gb380]? = some (.cells #[.int .i64 a0_0, .int .i64 a0_1, .int .i64 a0_2, (.slice A0_3 l0_3.length c0_3)] 27 (0, 0))) ∧ Aside0 (w'.heap[gb381]? = some (.cells #[.int .i64 0, .int .i64 0, .int .i64 0, (.slice none 0 0)] 27 (0, 0))) ∧ Aside0 (w'.heap[gb392]? = some (.cells #[.int .i64 t383, .int .i64 t384, .int .i64 t385, u393003] 27 (0, 0))) ∧ Aside0 (w'.heap[gb396]? = some (.cells #[.int .i64 a0_0, .int .i64 (wrap64 (a0_2 - (t389.length : Int))), .int .i64 a0_2, u397003] 27 (0, 0))) ∧ Aside0 (Below w.heap.size w w'))
  case atStart => exact ⟨(0), (t386), (y393), (.slice Ao16 t386.length co16), (.slice Ao21 y393.length co21), (sqD), H', ⟨Nat.le_refl _⟩, ⟨by refine sqR ?_; exact Kd.zo (Kd.zj (p := ⟨gb396, 3, none⟩) (Kd.zj (p := ⟨gb396, 2, none⟩) (Kd.zj (p := ⟨gb396, 1, none⟩) (Kd.zj (p := ⟨gb396, 0, none⟩) (Kd.zF HO391.out BK396.out (by decide)) (fun _ hk => hk.2) (.int .i64 a0_0)) (fun _ hk => hk.2) (.int .i64 (wrap64 (a0_2 - (t389.length : Int))))) (fun _ hk => hk.2) (.int .i64 a0_2)) (fun _ hk => hk.2) (.slice Ao21 y393.length co21)) (fun _ hk => by first | exact ⟨hk.1.1, hk.1.2⟩ | (refine ⟨?_, ?_⟩ <;> intro e_ <;> simp only [e_, ne_eq, not_true_eq_false, and_false, false_and] at hk))⟩, ⟨by refine sqR ?_; exact Kd.zo (Kd.zj (p := ⟨gb396, 3, none⟩) (Kd.zj (p := ⟨gb396, 2, none⟩) (Kd.zj (p := ⟨gb396, 1, none⟩) (Kd.zj (p := ⟨gb396, 0, none⟩) (Kd.zF HO388.out BK396.out (by decide)) (fun _ hk => hk.2) (.int .i64 a0_0)) (fun _ hk => hk.2) (.int .i64 (wrap64 (a0_2 - (t389.length : Int))))) (fun _ hk => hk.2) (.int .i64 a0_2)) (fun _ hk => hk.2) (.slice Ao21 y393.length co21)) (fun _ hk => by first | exact ⟨hk.1.1, hk.1.2⟩ | (refine ⟨?_, ?_⟩ <;> intro e_ <;> simp only [e_, ne_eq, not_true_eq_false, and_false, false_and] at hk))⟩, ⟨by refine sqR ?_; exact Kd.zo (Kd.zj (p := ⟨gb396, 3, none⟩) (Kd.zj (p := ⟨gb396, 2, none⟩) (Kd.zj (p := ⟨gb396, 1, none⟩) (Kd.zj (p := ⟨gb396, 0, none⟩) (Kd.zF HO395.out BK396.out (by decide)) (fun _ hk => hk.2) (.int .i64 a0_0)) (fun _ hk => hk.2) (.int .i64 (wrap64 (a0_2 - (t389.length : Int))))) (fun _ hk => hk.2) (.int .i64 a0_2)) (fun _ hk => hk.2) (.slice Ao21 y393.length co21)) (fun _ hk => by first | exact ⟨hk.1.2, hk.1.1.2⟩ | (refine ⟨?_, ?_⟩ <;> intro e_ <;> simp only [e_, ne_eq, not_true_eq_false, and_false, false_and] at hk))⟩, ⟨by refine sqK ?_; refine zi ?_ NB380_396.out _; refine sqK ?_; refine zi ?_ NB380_396.out _; refine sqK ?_; refine zi ?_ NB380_396.out _; refine sqK ?_; refine zi ?_ NB380_396.out _; refine sqK ?_; exact BK380.out⟩, ⟨by refine sqK ?_; refine zi ?_ NB381_396.out _; refine sqK ?_; refine zi ?_ NB381_396.out _; refine sqK ?_; refine zi ?_ NB381_396.out _; refine sqK ?_; refine zi ?_ NB381_396.out _; refine sqK ?_; exact BK381.out⟩, ⟨by refine sqK ?_; refine zi ?_ NB392_396.out _; refine sqK ?_; refine zi ?_ NB392_396.out _; refine sqK ?_; refine zi ?_ NB392_396.out _; refine sqK ?_; refine zi ?_ NB392_396.out _; refine sqK ?_; exact BK392.out⟩, ⟨by refine sqK ?_; refine zy (cs := #[.int .i64 a0_0, .int .i64 (wrap64 (a0_2 - (t389.length : Int))), .int .i64 a0_2, .slice none 0 0]) ?_ 3 _ rfl; refine sqK ?_; refine zy (cs := #[.int .i64 a0_0, .int .i64 (wrap64 (a0_2 - (t389.length : Int))), .int .i64 0, .slice none 0 0]) ?_ 2 _ rfl; refine sqK ?_; refine zy (cs := #[.int .i64 a0_0, .int .i64 0, .int .i64 0, .slice none 0 0]) ?_ 1 _ rfl; refine sqK ?_; refine zy (cs := #[.int .i64 0, .int .i64 0, .int .i64 0, .slice none 0 0]) ?_ 0 _ rfl; refine sqK ?_; exact BK396.out⟩, ⟨sqB⟩⟩
  case round =>
   clear H'
   try clear c1
   try clear c2
   try clear p2
   try clear c3
   try clear c5
   try clear p6
   try clear c7
   try clear c13
   try clear c14
   try clear c23
   try clear c24
   try clear c25
   try clear hcz10_0
   try clear hcz10_1
   try clear hcz10_2
   try clear hcz10_3
   try clear hcz15_0
   try clear hcz15_1
   try clear hcz15_2
   try clear hcz15_3
   try clear hcz17_0
   try clear hcz17_1
   try clear hcz17_2
   try clear hcz17_3
   try clear hcz26_0
   try clear hcz26_1
   try clear hcz26_2
   try clear hcz26_3
   try clear hcz8_0
   try clear hcz8_1
   try clear hcz8_2
   try clear hcz8_3
   try clear hfz10_0
   try clear hfz10_1
   try clear hfz10_2
   try clear hfz10_3
   try clear hfz15_0
   try clear hfz15_1
   try clear hfz15_2
   try clear hfz15_3
   try clear hfz17_0
   try clear hfz17_1
   try clear hfz17_2
   try clear hfz17_3
   try clear hfz26_0
   try clear hfz26_1
   try clear hfz26_2
   try clear hfz26_3
   try clear hfz8_0
   try clear hfz8_1
   try clear hfz8_2
   try clear hfz8_3
   obtain ⟨x7_1, x393003_1, x397003_1, u393003, u397003, rfl, HA, HK1, HO_5, HO_393003, HO_397003, BK380, BK381, BK392, BK396, HB⟩ := hrel
   cases gk with
   | zero => exact absurd HA.out (by simp [zm.l0])
   | succ k1 =>
    have H := HA.out
    clear HA
    simp only [zm.l0] at H
    by_cases c27 : x7_1 < a0_2
    ·rw [if_pos c27] at H
     have c27b0 : decide (x7_1 < a0_2) = true := decide_eq_true c27
     clear c27
     replace H := Option.bind_eq_some_iff.mp H
     obtain ⟨t397, A280, H⟩ := H
     replace H : (if t397 = true then (zm.l0 k1 t389 (wrap64 (x7_1 + 1)) a0_0 a0_1 a0_2 l0_3 t383 t384 t385 x393003_1 a0_0 (wrap64 (a0_2 - (t389.length : Int))) a0_2 x397003_1) else (if 0 ≤ a0_2 then (if (a0_2 : Int).toNat ≤ 35184372088832 then ((some (List.replicate (a0_2 : Int).toNat 0 : List Int)).bind fun y398 => (if 0 ≤ x7_1 then (if x7_1 < (y398.length : Int) then (zm.l1 k1 t389 x7_1 (y398.set (x7_1 : Int).toNat 1) t389 (t389.length : Int) 0 a0_0 a0_1 a0_2 l0_3 t383 t384 t385 x393003_1 a0_0 (wrap64 (a0_2 - (t389.length : Int))) a0_2 x397003_1) else (none)) else (none))) else (none)) else (none))) = some (r1, r2, r3, r4, r5) := H
     have A28 := Aside0.mk A280
     clear A280
     by_cases c29 : t397 = true
     ·subst c29
      have H1 : (zm.l0 k1 t389 (wrap64 (x7_1 + 1)) a0_0 a0_1 a0_2 l0_3 t383 t384 t385 x393003_1 a0_0 (wrap64 (a0_2 - (t389.length : Int))) a0_2 x397003_1) = some (r1, r2, r3, r4, r5) := by rw [if_pos rfl] at H; exact H
      clear H
      have H := H1
      clear H1
      have H' := Aside0.mk H
      clear H
      have hnb30 := NB380_381.out
      have hnc30 := NB381_380.out
      have hnb31 := NB380_392.out
      have hnc31 := NB392_380.out
      have hnb32 := NB380_396.out
      have hnc32 := NB396_380.out
      have hcz33_0 : wr.cell? ⟨gb380, 0, none⟩ = some (.int .i64 a0_0) := (zb BK380.out 0).trans rfl
      have hcz33_1 : wr.cell? ⟨gb380, 1, none⟩ = some (.int .i64 a0_1) := (zb BK380.out 1).trans rfl
      have hcz33_2 : wr.cell? ⟨gb380, 2, none⟩ = some (.int .i64 a0_2) := (zb BK380.out 2).trans rfl
      have hcz33_3 : wr.cell? ⟨gb380, 3, none⟩ = some (.slice A0_3 l0_3.length c0_3) := (zb BK380.out 3).trans rfl
      have hfz33_0 := za BK380.out 0; have hfz33_1 := za BK380.out 1; have hfz33_2 := za BK380.out 2; have hfz33_3 := za BK380.out 3
      go_wp2_with (first | ((with_reducible refine zp (f := 65) rfl ?_); refine zP (some 39) rfl rfl Try.func65 (by kernel_rfl) rfl #[.slice Ao18 t389.length co18, .int .i64 x7_1] rfl sqM ?_; (with_reducible refine (qt.calls k1 _ _ t389 x7_1 true _ ?side1 ?side2 A28.out).mono ?_); (case side1 => exact sqC (Kd.zu HO_5.out).2.2); (case side2 => exact (Kd.zu HO_5.out).2.1); rintro e w' ⟨rfl, ⟨nd, rfl⟩⟩; refine ⟨_, rfl, ?_⟩))
      
      go_roundg k1
      case measure => have := HK1.out; omega
      case rel => exact ⟨(wrap64 (x7_1 + 1)), (x393003_1), (x397003_1), (u393003), (u397003), (sqD), H', ⟨by have := HK1.out; omega⟩, ⟨sqR HO_5.out⟩, ⟨sqR HO_393003.out⟩, ⟨sqR HO_397003.out⟩, ⟨sqK BK380.out⟩, ⟨sqK BK381.out⟩, ⟨sqK BK392.out⟩, ⟨sqK BK396.out⟩, ⟨sqB⟩⟩
     ·replace c29 := Bool.eq_false_iff.mpr c29
      subst c29
      have H1 : (if 0 ≤ a0_2 then (if (a0_2 : Int).toNat ≤ 35184372088832 then ((some (List.replicate (a0_2 : Int).toNat 0 : List Int)).bind fun y398 => (if 0 ≤ x7_1 then (if x7_1 < (y398.length : Int) then (zm.l1 k1 t389 x7_1 (y398.set (x7_1 : Int).toNat 1) t389 (t389.length : Int) 0 a0_0 a0_1 a0_2 l0_3 t383 t384 t385 x393003_1 a0_0 (wrap64 (a0_2 - (t389.length : Int))) a0_2 x397003_1) else (none)) else (none))) else (none)) else (none)) = some (r1, r2, r3, r4, r5) := by rw [if_neg (show ¬ (false = true) by decide)] at H; exact H
      clear H
      have H := H1
      clear H1
      by_cases c34 : 0 ≤ a0_2
      ·rw [if_pos c34] at H
       have c34b0 := eq_true c34
       have c34b1 : decide (0 ≤ a0_2) = true := decide_eq_true c34
       clear c34
       by_cases c35 : (a0_2 : Int).toNat ≤ 35184372088832
       ·rw [if_pos c35] at H
        have c35b0 := eq_true c35
        have c35b1 : decide ((a0_2 : Int).toNat ≤ 35184372088832) = true := decide_eq_true c35
        clear c35
        obtain ⟨y398, hy398⟩ : ∃ y_ : List Int, y_ = (List.replicate (a0_2 : Int).toNat 0) := ⟨_, rfl⟩
        replace H : (if 0 ≤ x7_1 then (if x7_1 < (y398.length : Int) then (zm.l1 k1 t389 x7_1 (y398.set (x7_1 : Int).toNat 1) t389 (t389.length : Int) 0 a0_0 a0_1 a0_2 l0_3 t383 t384 t385 x393003_1 a0_0 (wrap64 (a0_2 - (t389.length : Int))) a0_2 x397003_1) else (none)) else (none)) = some (r1, r2, r3, r4, r5) := by first | (rw [hy398]; with_reducible exact H) | (have H2_ := (Option.bind_some _ _).symm.trans H; rw [hy398]; with_reducible exact H2_) | (have H2_ := (Option.bind_some _ _).symm.trans H; with_reducible exact H2_) | with_reducible exact H | (rw [hy398]; exact H) | exact H
        have Ny398 := Aside0.mk hy398
        clear hy398
        by_cases c36 : 0 ≤ x7_1
        ·rw [if_pos c36] at H
         have c36b0 : decide (0 ≤ x7_1) = true := decide_eq_true c36
         clear c36
         by_cases c37 : x7_1 < (y398.length : Int)
         ·rw [if_pos c37] at H
          have c37b0 : decide (x7_1 < (y398.length : Int)) = true := decide_eq_true c37
          clear c37
          obtain ⟨y401, hy401⟩ : ∃ y_ : List Int, y_ = (y398.set (x7_1 : Int).toNat 1) := ⟨_, rfl⟩
          replace H : (zm.l1 k1 t389 x7_1 y401 t389 (t389.length : Int) 0 a0_0 a0_1 a0_2 l0_3 t383 t384 t385 x393003_1 a0_0 (wrap64 (a0_2 - (t389.length : Int))) a0_2 x397003_1) = some (r1, r2, r3, r4, r5) := by first | (rw [hy401]; with_reducible exact H) | (have H2_ := (Option.bind_some _ _).symm.trans H; rw [hy401]; with_reducible exact H2_) | (have H2_ := (Option.bind_some _ _).symm.trans H; with_reducible exact H2_) | with_reducible exact H | (rw [hy401]; exact H) | exact H
          have Ny401 := Aside0.mk hy401
          clear hy401
          have H' := Aside0.mk H
          clear H
          have hnb39 := NB380_381.out
          have hnc39 := NB381_380.out
          have hnb40 := NB380_392.out
          have hnc40 := NB392_380.out
          have hnb41 := NB380_396.out
          have hnc41 := NB396_380.out
          have hcz42_0 : wr.cell? ⟨gb380, 0, none⟩ = some (.int .i64 a0_0) := (zb BK380.out 0).trans rfl
          have hcz42_1 : wr.cell? ⟨gb380, 1, none⟩ = some (.int .i64 a0_1) := (zb BK380.out 1).trans rfl
          have hcz42_2 : wr.cell? ⟨gb380, 2, none⟩ = some (.int .i64 a0_2) := (zb BK380.out 2).trans rfl
          have hcz42_3 : wr.cell? ⟨gb380, 3, none⟩ = some (.slice A0_3 l0_3.length c0_3) := (zb BK380.out 3).trans rfl
          have hfz42_0 := za BK380.out 0; have hfz42_1 := za BK380.out 1; have hfz42_2 := za BK380.out 2; have hfz42_3 := za BK380.out 3
          go_wp2_with (first | ((with_reducible refine zp (f := 65) rfl ?_); refine zP (some 39) rfl rfl Try.func65 (by kernel_rfl) rfl #[.slice Ao18 t389.length co18, .int .i64 x7_1] rfl sqM ?_; (with_reducible refine (qt.calls k1 _ _ t389 x7_1 false _ ?side1 ?side2 A28.out).mono ?_); (case side1 => exact sqC (Kd.zu HO_5.out).2.2); (case side2 => exact (Kd.zu HO_5.out).2.1); rintro e w' ⟨rfl, ⟨nd, rfl⟩⟩; refine ⟨_, rfl, ?_⟩; (try (rw [yJ wr]; generalize hq_ : World.drewN wr _ = wr; have n0_ : Aside0 (Kd.R (Kd.int .i64) 3 wr w.heap.size (fun k_ => some k_ ≠ (u397003 : Value).ownBlock ∧ some k_ ≠ (.slice Ao18 t389.length co18 : Value).ownBlock) u393003 x393003_1) := ⟨by rw [← hq_]; exact (by refine sqR ?_; exact Kd.zo HO_393003.out (fun _ hk => by first | exact ⟨hk.2, hk.1⟩ | (refine ⟨?_, ?_⟩ <;> intro e_ <;> simp only [e_, ne_eq, not_true_eq_false, and_false, false_and] at hk)))⟩; have n1_ : Aside0 (Kd.R (Kd.int .i64) 3 wr w.heap.size (fun k_ => some k_ ≠ (u393003 : Value).ownBlock ∧ some k_ ≠ (.slice Ao18 t389.length co18 : Value).ownBlock) u397003 x397003_1) := ⟨by rw [← hq_]; exact (by refine sqR ?_; exact Kd.zo HO_397003.out (fun _ hk => by first | exact ⟨hk.2, hk.1⟩ | (refine ⟨?_, ?_⟩ <;> intro e_ <;> simp only [e_, ne_eq, not_true_eq_false, and_false, false_and] at hk)))⟩; have n2_ : Aside0 (Kd.R (Kd.int .i64) 3 wr w.heap.size (fun k_ => some k_ ≠ (u393003 : Value).ownBlock ∧ some k_ ≠ (u397003 : Value).ownBlock) (.slice Ao18 t389.length co18) t389) := ⟨by rw [← hq_]; exact (sqR HO_5.out)⟩; have n3_ : Aside0 (wr.heap[gb380]? = some (.cells #[.int .i64 a0_0, .int .i64 a0_1, .int .i64 a0_2, .slice A0_3 l0_3.length c0_3] 27 (0, 0))) := ⟨by rw [← hq_]; exact (sqK BK380.out)⟩; have n4_ : Aside0 (wr.heap[gb381]? = some (.cells #[.int .i64 0, .int .i64 0, .int .i64 0, .slice none 0 0] 27 (0, 0))) := ⟨by rw [← hq_]; exact (sqK BK381.out)⟩; have n5_ : Aside0 (wr.heap[gb392]? = some (.cells #[.int .i64 t383, .int .i64 t384, .int .i64 t385, u393003] 27 (0, 0))) := ⟨by rw [← hq_]; exact (sqK BK392.out)⟩; have n6_ : Aside0 (wr.heap[gb396]? = some (.cells #[.int .i64 a0_0, .int .i64 (wrap64 (a0_2 - (t389.length : Int))), .int .i64 a0_2, u397003] 27 (0, 0))) := ⟨by rw [← hq_]; exact (sqK BK396.out)⟩; have n7_ : Aside0 (Below w.heap.size w wr) := ⟨by rw [← hq_]; exact sqB⟩; clear HO_393003 HO_397003 HO_5 BK380 BK381 BK392 BK396 HB hq_; have HO_393003 := n0_; have HO_397003 := n1_; have HO_5 := n2_; have BK380 := n3_; have BK381 := n4_; have BK392 := n5_; have BK396 := n6_; have HB := n7_; clear n0_ n1_ n2_ n3_ n4_ n5_ n6_ n7_; have hczqgb380_0 : wr.cell? ⟨gb380, 0, none⟩ = some (.int .i64 a0_0) := (zb BK380.out 0).trans rfl; have hfzqgb380_0 := za BK380.out 0; have hczqgb380_1 : wr.cell? ⟨gb380, 1, none⟩ = some (.int .i64 a0_1) := (zb BK380.out 1).trans rfl; have hfzqgb380_1 := za BK380.out 1; have hczqgb380_2 : wr.cell? ⟨gb380, 2, none⟩ = some (.int .i64 a0_2) := (zb BK380.out 2).trans rfl; have hfzqgb380_2 := za BK380.out 2; have hczqgb380_3 : wr.cell? ⟨gb380, 3, none⟩ = some (.slice A0_3 l0_3.length c0_3) := (zb BK380.out 3).trans rfl; have hfzqgb380_3 := za BK380.out 3; have hczqgb381_0 : wr.cell? ⟨gb381, 0, none⟩ = some (.int .i64 0) := (zb BK381.out 0).trans rfl; have hfzqgb381_0 := za BK381.out 0; have hczqgb381_1 : wr.cell? ⟨gb381, 1, none⟩ = some (.int .i64 0) := (zb BK381.out 1).trans rfl; have hfzqgb381_1 := za BK381.out 1; have hczqgb381_2 : wr.cell? ⟨gb381, 2, none⟩ = some (.int .i64 0) := (zb BK381.out 2).trans rfl; have hfzqgb381_2 := za BK381.out 2; have hczqgb381_3 : wr.cell? ⟨gb381, 3, none⟩ = some (.slice none 0 0) := (zb BK381.out 3).trans rfl; have hfzqgb381_3 := za BK381.out 3; have hczqgb392_0 : wr.cell? ⟨gb392, 0, none⟩ = some (.int .i64 t383) := (zb BK392.out 0).trans rfl; have hfzqgb392_0 := za BK392.out 0; have hczqgb392_1 : wr.cell? ⟨gb392, 1, none⟩ = some (.int .i64 t384) := (zb BK392.out 1).trans rfl; have hfzqgb392_1 := za BK392.out 1; have hczqgb392_2 : wr.cell? ⟨gb392, 2, none⟩ = some (.int .i64 t385) := (zb BK392.out 2).trans rfl; have hfzqgb392_2 := za BK392.out 2; have hczqgb392_3 : wr.cell? ⟨gb392, 3, none⟩ = some (u393003) := (zb BK392.out 3).trans rfl; have hfzqgb392_3 := za BK392.out 3; have hczqgb396_0 : wr.cell? ⟨gb396, 0, none⟩ = some (.int .i64 a0_0) := (zb BK396.out 0).trans rfl; have hfzqgb396_0 := za BK396.out 0; have hczqgb396_1 : wr.cell? ⟨gb396, 1, none⟩ = some (.int .i64 (wrap64 (a0_2 - (t389.length : Int)))) := (zb BK396.out 1).trans rfl; have hfzqgb396_1 := za BK396.out 1; have hczqgb396_2 : wr.cell? ⟨gb396, 2, none⟩ = some (.int .i64 a0_2) := (zb BK396.out 2).trans rfl; have hfzqgb396_2 := za BK396.out 2; have hczqgb396_3 : wr.cell? ⟨gb396, 3, none⟩ = some (u397003) := (zb BK396.out 3).trans rfl; have hfzqgb396_3 := za BK396.out 3))) | ((with_reducible refine zC (N := 42) rfl ?_); refine Kd.Jj (Kd.int .i64) _ 3 rfl (N := 42) rfl 22 _ _ rfl a0_2 rfl rfl Try.underlying22 (.int .i64 0) 8 vt rfl (by decide) (by omega) 0 (ok := fun _ => True) (okp := fun _ => True) rfl (fun _ hk => hk) trivial (of_decide_eq_true sqA) (Nat.le_trans (Nat.mul_le_mul_right _ (of_decide_eq_true sqA : a0_2.toNat ≤ 35184372088832)) (by omega)) (Below.refl _ _) (Nat.le_refl _) ?_; intro v399 w43 ho44 hb hg_ hnew_; clear hg_ hnew_; (first | rw [← Ny398.out] at ho44 | (simp only [Int.reduceToNat] at ho44; rw [← Ny398.out] at ho44)); have n0_ := Aside0.mk (Kd.qg (sqR HO_5.out) (Kd.qC ho44) hb); have n1_ := Aside0.mk (Kd.qg (sqR HO_393003.out) (Kd.qC ho44) hb); have n2_ := Aside0.mk (Kd.qg (sqR HO_397003.out) (Kd.qC ho44) hb); have n3_ := Aside0.mk (Kd.qo (Kd.qG (Kd.qG (Kd.qG ho44 (Kd.jg (sqR HO_5.out))) (Kd.jg (sqR HO_393003.out))) (Kd.jg (sqR HO_397003.out))) (zJ sqB)); have n4_ := Aside0.mk (ze (g := gb380) (o := .cells #[.int .i64 a0_0, .int .i64 a0_1, .int .i64 a0_2, .slice A0_3 l0_3.length c0_3] 27 (0, 0)) (sqK BK380.out) hb); have n5_ := Aside0.mk (ze (g := gb381) (o := .cells #[.int .i64 0, .int .i64 0, .int .i64 0, .slice none 0 0] 27 (0, 0)) (sqK BK381.out) hb); have n6_ := Aside0.mk (ze (g := gb392) (o := .cells #[.int .i64 t383, .int .i64 t384, .int .i64 t385, u393003] 27 (0, 0)) (sqK BK392.out) hb); have n7_ := Aside0.mk (ze (g := gb396) (o := .cells #[.int .i64 a0_0, .int .i64 (wrap64 (a0_2 - (t389.length : Int))), .int .i64 a0_2, u397003] 27 (0, 0)) (sqK BK396.out) hb); have n8_ := Aside0.mk (zg sqB hb); clear HO_5; clear HO_393003; clear HO_397003; clear BK380; clear BK381; clear BK392; clear BK396; clear HB; have HO_5 := n0_; have HO_393003 := n1_; have HO_397003 := n2_; have HO400 := n3_; have BK380 := n4_; have BK381 := n5_; have BK392 := n6_; have BK396 := n7_; have HB := n8_; clear n0_ n1_ n2_ n3_ n4_ n5_ n6_ n7_ n8_; clear hb ho44; have p38 : 0 ≤ (x7_1 : Int) := of_decide_eq_true sqA; have q38 : (x7_1 : Int) < ((y398.length : Int) : Int) := of_decide_eq_true sqA; obtain ⟨go38, co38, eo38, gb38, gl38, cl38, HG38⟩ := Kd.vq HO400.out (by omega); (first | cases eo38 | (injection eo38 with ea_ en_ ec_; (first | subst ea_ | (injection ea_ with ea_; subst ea_)); subst ec_; clear en_)); have GB38 := Aside0.mk gb38; have GG38 := Aside0.mk HG38; clear gb38 gl38 HG38; obtain ⟨hx38_0, hf38_0⟩ := Kd.qX 0 HO400.out (x7_1 : Int) p38 q38; replace p38 := eq_true p38; replace q38 := eq_true q38; have n_ := Aside0.mk (Kd.zo (ok' := (fun k_ => some k_ ≠ (.slice Ao18 t389.length co18 : Value).ownBlock ∧ some k_ ≠ (u393003 : Value).ownBlock ∧ some k_ ≠ (u397003 : Value).ownBlock)) HO400.out (fun k_ hk => ⟨hk.1.1.2, ⟨hk.1.2, hk.2⟩⟩)); clear HO400; have HO400 := n_; clear n_; obtain ⟨hy45_, hz45_⟩ := Kd.qX 0 HO400.out (x7_1 : Int) (of_decide_eq_true sqA) (of_decide_eq_true sqA); have HP45 := Kd.ye HO400.out (x7_1 : Int) 1) | ((with_reducible refine jH (t := 3) (p := 45) rfl ?_); refine jt (t := 3) (p := 45) (v := ?vo_w46) (w1 := (w43.setCell ⟨go38, (x7_1 : Int).toNat, none⟩ (.int .i64 1))) ?hg ?ho ?hn ?hr ?_; (case ho => rfl); (case hg => rfl); (case hn => rfl); (case hr => exact sqG); intro w46 hw; have hg : w43.grownBy w46 (some go38) := (by rw [hw]; exact HP45.2); have hp_ : Kd.R (Kd.int .i64) 3 w46 w.heap.size (fun k_ => some k_ ≠ (.slice Ao18 t389.length co18 : Value).ownBlock ∧ some k_ ≠ (u393003 : Value).ownBlock ∧ some k_ ≠ (u397003 : Value).ownBlock) (.slice (some ⟨go38, 0, none⟩) y398.length co38) y401 := (by rw [hw, Ny401.out]; exact HP45.1); clear HP45; have n0_ := Aside0.mk (Kd.qY (v := (.slice (some ⟨go38, 0, none⟩) y398.length co38)) (v1 := (.slice (some ⟨go38, 0, none⟩) y398.length co38)) (ok := (fun k_ => some k_ ≠ (u393003 : Value).ownBlock ∧ some k_ ≠ (u397003 : Value).ownBlock)) (by refine sqR ?_; first | exact HO_5.out | exact Kd.zo HO_5.out (fun _ hk => ⟨⟨hk.1.2, hk.1.1⟩, hk.2⟩)) hg (.inl rfl)); have n1_ := Aside0.mk (Kd.qY (v := (.slice (some ⟨go38, 0, none⟩) y398.length co38)) (v1 := (.slice (some ⟨go38, 0, none⟩) y398.length co38)) (ok := (fun k_ => some k_ ≠ (.slice Ao18 t389.length co18 : Value).ownBlock ∧ some k_ ≠ (u397003 : Value).ownBlock)) (by refine sqR ?_; first | exact HO_393003.out | exact Kd.zo HO_393003.out (fun _ hk => ⟨⟨hk.1.2, hk.1.1⟩, hk.2⟩)) hg (.inl rfl)); have n2_ := Aside0.mk (Kd.qY (v := (.slice (some ⟨go38, 0, none⟩) y398.length co38)) (v1 := (.slice (some ⟨go38, 0, none⟩) y398.length co38)) (ok := (fun k_ => some k_ ≠ (.slice Ao18 t389.length co18 : Value).ownBlock ∧ some k_ ≠ (u393003 : Value).ownBlock)) (by refine sqR ?_; first | exact HO_397003.out | exact Kd.zo HO_397003.out (fun _ hk => ⟨⟨hk.1.2, hk.1.1⟩, hk.2⟩)) hg (.inl rfl)); have n3_ := Aside0.mk (zX (g := gb380) (o := .cells #[.int .i64 a0_0, .int .i64 a0_1, .int .i64 a0_2, .slice A0_3 l0_3.length c0_3] 27 (0, 0)) (sqK BK380.out) hg (Kd.qH HO400.out BK380.out (by decide))); have n4_ := Aside0.mk (zX (g := gb381) (o := .cells #[.int .i64 0, .int .i64 0, .int .i64 0, .slice none 0 0] 27 (0, 0)) (sqK BK381.out) hg (Kd.qH HO400.out BK381.out (by decide))); have n5_ := Aside0.mk (zX (g := gb392) (o := .cells #[.int .i64 t383, .int .i64 t384, .int .i64 t385, u393003] 27 (0, 0)) (sqK BK392.out) hg (Kd.qH HO400.out BK392.out (by decide))); have n6_ := Aside0.mk (zX (g := gb396) (o := .cells #[.int .i64 a0_0, .int .i64 (wrap64 (a0_2 - (t389.length : Int))), .int .i64 a0_2, u397003] 27 (0, 0)) (sqK BK396.out) hg (Kd.qH HO400.out BK396.out (by decide))); have n7_ := Aside0.mk (hp_); have n8_ := Aside0.mk ((by rw [hw]; exact zO (HB.out) GB38.out : Below w.heap.size w w46)); clear HO_5; clear HO_393003; clear HO_397003; clear BK380; clear BK381; clear BK392; clear BK396; clear HO400; clear HB; have HO_5 := n0_; have HO_393003 := n1_; have HO_397003 := n2_; have BK380 := n3_; have BK381 := n4_; have BK392 := n5_; have BK396 := n6_; have HO400 := n7_; have HB := n8_; clear n0_ n1_ n2_ n3_ n4_ n5_ n6_ n7_ n8_; clear hg hw hp_))
          go_loopg [48] k1 (fun kq v48 w' => ∃ (x8_2 : List Int) (x48_2 : Int), v48 = .int .i64 x48_2 ∧ Aside0 (zm.l1 kq t389 x7_1 x8_2 t389 (t389.length : Int) x48_2 a0_0 a0_1 a0_2 l0_3 t383 t384 t385 x393003_1 a0_0 (wrap64 (a0_2 - (t389.length : Int))) a0_2 x397003_1 = some (r1, r2, r3, r4, r5)) ∧ Aside0 (kq ≤ k1) ∧ Aside0 (Kd.R (Kd.int .i64) 3 w' w.heap.size (fun k_ => some k_ ≠ ((.slice (some ⟨go38, 0, none⟩) y398.length co38) : Value).ownBlock ∧ some k_ ≠ (u393003 : Value).ownBlock ∧ some k_ ≠ (u397003 : Value).ownBlock) (.slice Ao18 t389.length co18) t389) ∧ Aside0 (Kd.R (Kd.int .i64) 3 w' w.heap.size (fun k_ => some k_ ≠ ((.slice Ao18 t389.length co18) : Value).ownBlock ∧ some k_ ≠ ((.slice Ao18 t389.length co18) : Value).ownBlock ∧ some k_ ≠ (u393003 : Value).ownBlock ∧ some k_ ≠ (u397003 : Value).ownBlock) (.slice (some ⟨go38, 0, none⟩) y398.length co38) x8_2) ∧ Aside0 (Kd.R (Kd.int .i64) 3 w' w.heap.size (fun k_ => some k_ ≠ ((.slice (some ⟨go38, 0, none⟩) y398.length co38) : Value).ownBlock ∧ some k_ ≠ (u393003 : Value).ownBlock ∧ some k_ ≠ (u397003 : Value).ownBlock) (.slice Ao18 t389.length co18) t389) ∧ Aside0 (Kd.R (Kd.int .i64) 3 w' w.heap.size (fun k_ => some k_ ≠ ((.slice Ao18 t389.length co18) : Value).ownBlock ∧ some k_ ≠ ((.slice (some ⟨go38, 0, none⟩) y398.length co38) : Value).ownBlock ∧ some k_ ≠ ((.slice Ao18 t389.length co18) : Value).ownBlock ∧ some k_ ≠ (u397003 : Value).ownBlock) u393003 x393003_1) ∧ Aside0 (Kd.R (Kd.int .i64) 3 w' w.heap.size (fun k_ => some k_ ≠ ((.slice Ao18 t389.length co18) : Value).ownBlock ∧ some k_ ≠ ((.slice (some ⟨go38, 0, none⟩) y398.length co38) : Value).ownBlock ∧ some k_ ≠ ((.slice Ao18 t389.length co18) : Value).ownBlock ∧ some k_ ≠ (u393003 : Value).ownBlock) u397003 x397003_1) ∧ Aside0 (w'.heap[gb380]? = some (.cells #[.int .i64 a0_0, .int .i64 a0_1, .int .i64 a0_2, (.slice A0_3 l0_3.length c0_3)] 27 (0, 0))) ∧ Aside0 (w'.heap[gb381]? = some (.cells #[.int .i64 0, .int .i64 0, .int .i64 0, (.slice none 0 0)] 27 (0, 0))) ∧ Aside0 (w'.heap[gb392]? = some (.cells #[.int .i64 t383, .int .i64 t384, .int .i64 t385, u393003] 27 (0, 0))) ∧ Aside0 (w'.heap[gb396]? = some (.cells #[.int .i64 a0_0, .int .i64 (wrap64 (a0_2 - (t389.length : Int))), .int .i64 a0_2, u397003] 27 (0, 0))) ∧ Aside0 (Below w.heap.size w w'))
          case atStart => exact ⟨(y401), (0), (sqD), H', ⟨Nat.le_refl _⟩, ⟨by refine sqR ?_; exact Kd.zo HO_5.out (fun _ hk => by first | exact ⟨hk.2, ⟨hk.1.1, hk.1.2⟩⟩ | (refine ⟨?_, ?_, ?_⟩ <;> intro e_ <;> simp only [e_, ne_eq, not_true_eq_false, and_false, false_and] at hk))⟩, ⟨by refine sqR ?_; exact Kd.zo HO400.out (fun _ hk => ⟨hk.1, ⟨hk.1, ⟨hk.2.1, hk.2.2⟩⟩⟩)⟩, ⟨by refine sqR ?_; exact Kd.zo HO_5.out (fun _ hk => by first | exact ⟨hk.2, ⟨hk.1.1, hk.1.2⟩⟩ | (refine ⟨?_, ?_, ?_⟩ <;> intro e_ <;> simp only [e_, ne_eq, not_true_eq_false, and_false, false_and] at hk))⟩, ⟨by refine sqR ?_; exact Kd.zo HO_393003.out (fun _ hk => ⟨hk.1.1, ⟨hk.2, ⟨hk.1.1, hk.1.2⟩⟩⟩)⟩, ⟨by refine sqR ?_; exact Kd.zo HO_397003.out (fun _ hk => ⟨hk.1.1, ⟨hk.2, ⟨hk.1.1, hk.1.2⟩⟩⟩)⟩, ⟨sqK BK380.out⟩, ⟨sqK BK381.out⟩, ⟨sqK BK392.out⟩, ⟨sqK BK396.out⟩, ⟨sqB⟩⟩
          case round =>
           clear H'
           try clear c1
           try clear c2
           try clear p2
           try clear c3
           try clear p3
           try clear q3
           try clear hx3
           try clear hf3
           try clear c4
           try clear c5
           try clear c6
           try clear p6
           try clear c7
           try clear c13
           try clear c14
           try clear c23
           try clear c24
           try clear c25
           try clear c27
           try clear c27b0
           try clear c29
           try clear c30
           try clear c31
           try clear c32
           try clear c34
           try clear c34b0
           try clear c34b1
           try clear c35
           try clear c35b0
           try clear c35b1
           try clear c36
           try clear c36b0
           try clear c37
           try clear c37b0
           try clear p38
           try clear q38
           try clear hx38
           try clear hf38
           try clear c39
           try clear c40
           try clear c41
           try clear hcz10_0
           try clear hcz10_1
           try clear hcz10_2
           try clear hcz10_3
           try clear hcz15_0
           try clear hcz15_1
           try clear hcz15_2
           try clear hcz15_3
           try clear hcz17_0
           try clear hcz17_1
           try clear hcz17_2
           try clear hcz17_3
           try clear hcz26_0
           try clear hcz26_1
           try clear hcz26_2
           try clear hcz26_3
           try clear hcz33_0
           try clear hcz33_1
           try clear hcz33_2
           try clear hcz33_3
           try clear hcz42_0
           try clear hcz42_1
           try clear hcz42_2
           try clear hcz42_3
           try clear hcz8_0
           try clear hcz8_1
           try clear hcz8_2
           try clear hcz8_3
           try clear hfz10_0
           try clear hfz10_1
           try clear hfz10_2
           try clear hfz10_3
           try clear hfz15_0
           try clear hfz15_1
           try clear hfz15_2
           try clear hfz15_3
           try clear hfz17_0
           try clear hfz17_1
           try clear hfz17_2
           try clear hfz17_3
           try clear hfz26_0
           try clear hfz26_1
           try clear hfz26_2
           try clear hfz26_3
           try clear hfz33_0
           try clear hfz33_1
           try clear hfz33_2
           try clear hfz33_3
           try clear hfz42_0
           try clear hfz42_1
           try clear hfz42_2
           try clear hfz42_3
           try clear hfz8_0
           try clear hfz8_1
           try clear hfz8_2
           try clear hfz8_3
           try clear hx38_0
           try clear p2
           try clear p38
           try clear p6
           try clear q38
           obtain ⟨x8_2, x48_2, rfl, HA, HK2, HO_5, HO_8, HO_46, HO_393003, HO_397003, BK380, BK381, BK392, BK396, HB⟩ := hrel
           have hl8_2 := (Kd.zu HO_8.out).1
           rw [hl8_2] at HO_8
           (try simp only [hl8_2])
           (try simp only [hl8_2] at BK380)
           (try simp only [hl8_2] at BK381)
           (try simp only [hl8_2] at BK392)
           (try simp only [hl8_2] at BK396)
           (try simp only [hl8_2] at HO_5)
           (try simp only [hl8_2] at HO_46)
           (try simp only [hl8_2] at HO_393003)
           (try simp only [hl8_2] at HO_397003)
           cases gk with
           | zero => exact absurd HA.out (by simp [zm.l1])
           | succ k2 =>
            have H := HA.out
            clear HA
            simp only [zm.l1] at H
            by_cases c47 : x48_2 < (t389.length : Int)
            ·rw [if_pos c47] at H
             have c47b0 : decide (x48_2 < (t389.length : Int)) = true := decide_eq_true c47
             (try simp only [hl8_2] at c47b0)
             clear c47
             by_cases c48 : 0 ≤ x48_2
             ·rw [if_pos c48] at H
              have c48b0 : decide (0 ≤ x48_2) = true := decide_eq_true c48
              clear c48
              by_cases c49 : x48_2 < (t389.length : Int)
              ·rw [if_pos c49] at H
               have c49b0 : decide (x48_2 < (t389.length : Int)) = true := decide_eq_true c49
               (try simp only [hl8_2] at c49b0)
               clear c49
               replace H := Option.bind_eq_some_iff.mp H
               obtain ⟨t403, A500, H⟩ := H
               replace H : (if a0_0 = 0 then (none) else (if 0 ≤ (rd t389 x48_2) then (if (rd t389 x48_2) < (x8_2.length : Int) then (zm.l1 k2 t389 x7_1 (x8_2.set ((rd t389 x48_2) : Int).toNat (Int.tmod (wrap64 (a0_0 - t403)) a0_0)) t389 (t389.length : Int) (wrap64 (x48_2 + 1)) a0_0 a0_1 a0_2 l0_3 t383 t384 t385 x393003_1 a0_0 (wrap64 (a0_2 - (t389.length : Int))) a0_2 x397003_1) else (none)) else (none))) = some (r1, r2, r3, r4, r5) := H
               have A50 := Aside0.mk A500
               clear A500
               by_cases c51 : a0_0 = 0
               ·rw [if_pos c51] at H
                exact absurd H (by simp)
               ·rw [if_neg c51] at H
                have c51b0 : (a0_0 == 0) = false := beq_eq_false_iff_ne.mpr c51
                have c51b1 : (a0_0 != 0) = true := bne_iff_ne.mpr c51
                by_cases c52 : 0 ≤ (rd t389 x48_2)
                ·rw [if_pos c52] at H
                 have c52b0 : decide (0 ≤ (rd t389 x48_2)) = true := decide_eq_true c52
                 clear c52
                 by_cases c53 : (rd t389 x48_2) < (x8_2.length : Int)
                 ·rw [if_pos c53] at H
                  have c53b0 : decide ((rd t389 x48_2) < (x8_2.length : Int)) = true := decide_eq_true c53
                  (try simp only [hl8_2] at c53b0)
                  clear c53
                  obtain ⟨y404, hy404⟩ : ∃ y_ : List Int, y_ = (x8_2.set ((rd t389 x48_2) : Int).toNat (Int.tmod (wrap64 (a0_0 - t403)) a0_0)) := ⟨_, rfl⟩
                  replace H : (zm.l1 k2 t389 x7_1 y404 t389 (t389.length : Int) (wrap64 (x48_2 + 1)) a0_0 a0_1 a0_2 l0_3 t383 t384 t385 x393003_1 a0_0 (wrap64 (a0_2 - (t389.length : Int))) a0_2 x397003_1) = some (r1, r2, r3, r4, r5) := by first | (rw [hy404]; with_reducible exact H) | (have H2_ := (Option.bind_some _ _).symm.trans H; rw [hy404]; with_reducible exact H2_) | (have H2_ := (Option.bind_some _ _).symm.trans H; with_reducible exact H2_) | with_reducible exact H | (rw [hy404]; exact H) | exact H
                  have Ny404 := Aside0.mk hy404
                  clear hy404
                  have H' := Aside0.mk H
                  clear H
                  have p402 : 0 ≤ (x48_2 : Int) := of_decide_eq_true sqA
                  have q402 : x48_2 < (t389.length : Int) := of_decide_eq_true sqA
                  obtain ⟨ad402, e402, hx402_0⟩ := Kd.qh (Kd.zu HO_46.out).2.2 x48_2 p402 q402
                  cases e402
                  replace p402 := eq_true p402
                  replace q402 := eq_true q402
                  try go_wp2
                  have n0_ := Aside0.mk (Kd.qM HO_5.out)
                  have n1_ := Aside0.mk (Kd.qM HO_8.out)
                  have n2_ := Aside0.mk (Kd.qM HO_46.out)
                  have n3_ := Aside0.mk (Kd.qM HO_393003.out)
                  have n4_ := Aside0.mk (Kd.qM HO_397003.out)
                  have n5_ := Aside0.mk (qd BK380.out)
                  have n6_ := Aside0.mk (qd BK381.out)
                  have n7_ := Aside0.mk (qd BK392.out)
                  have n8_ := Aside0.mk (qd BK396.out)
                  have n9_ := Aside0.mk (zT HB.out)
                  clear HO_5 HO_8 HO_46 HO_393003 HO_397003 BK380 BK381 BK392 BK396 HB; have HO_5 := n0_; have HO_8 := n1_; have HO_46 := n2_; have HO_393003 := n3_; have HO_397003 := n4_; have BK380 := n5_; have BK381 := n6_; have BK392 := n7_; have BK396 := n8_; have HB := n9_; clear n0_ n1_ n2_ n3_ n4_ n5_ n6_ n7_ n8_ n9_
                  obtain ⟨Ao56, co56, eo56⟩ := Kd.zU HO_393003.out
                  (first | subst eo56 | (injection eo56 with f1_ f2_ f3_; have f4_ := f1_.symm; have f5_ := f3_.symm; clear f1_ f2_ f3_; subst f4_; subst f5_))
                  refine jU (n := 14) (S := fun w' => w'.cell? ⟨gb380, 0, none⟩ = some (.int .i64 a0_0) ∧ w'.cell? ⟨gb380, 1, none⟩ = some (.int .i64 a0_1) ∧ w'.cell? ⟨gb380, 2, none⟩ = some (.int .i64 a0_2) ∧ w'.cell? ⟨gb380, 3, none⟩ = some (.slice A0_3 l0_3.length c0_3) ∧ w'.cell? ⟨gb392, 0, none⟩ = some (.int .i64 t383) ∧ w'.cell? ⟨gb392, 1, none⟩ = some (.int .i64 t384) ∧ w'.cell? ⟨gb392, 2, none⟩ = some (.int .i64 t385) ∧ w'.cell? ⟨gb392, 3, none⟩ = some (.slice Ao56 x393003_1.length co56)) (ds := [13]) #[false, false, false, false, false, false, false, false, false, false, false, false, false, false] (by kernel_rfl) rfl rfl ⟨(zb BK380.out 0).trans rfl, (zb BK380.out 1).trans rfl, (zb BK380.out 2).trans rfl, (zb BK380.out 3).trans rfl, (zb BK392.out 0).trans rfl, (zb BK392.out 1).trans rfl, (zb BK392.out 2).trans rfl, (zb BK392.out 3).trans rfl⟩ (fun hHeld => ?_); refine qZ zm.zaA zm.Y1 (fun HT_ HW_ => ?_)
                  generalize wr.drew = w55 at HO_5 HO_8 HO_46 HO_393003 HO_397003 BK380 BK381 BK392 BK396 HB hHeld ⊢
                  refine zx (i := 0) (N := some 53) (v := ?_) (a' := ?_) #[true, false, false, false, false, false, false, false, false, false, false, false, false, false] rfl rfl (zn HT_.out (by kernel_rfl)) (fun _ _ _ h => h) (Or.inl ⟨by rfl, ?_⟩) ?_ ?_
                  rotate_left
                  ·intro w'; go_simp; with_reducible rfl
                  rotate_left
                  ·simp only [Act.put, List.setIfInBounds_toArray, List.set_cons_zero, List.set_cons_succ, zf, zh]; rfl
                  refine zx (i := 1) (N := some 54) (v := ?_) (a' := ?_) #[true, true, false, false, false, false, false, false, false, false, false, false, false, false] rfl rfl (zn HT_.out (by kernel_rfl)) (fun _ _ _ h => h) (Or.inl ⟨by rfl, ?_⟩) ?_ ?_
                  rotate_left
                  ·intro w'; go_simp; with_reducible rfl
                  rotate_left
                  ·simp only [Act.put, List.setIfInBounds_toArray, List.set_cons_zero, List.set_cons_succ, zf, zh]; rfl
                  refine zx (i := 2) (N := some 55) (v := ?_) (a' := ?_) #[true, true, true, false, false, false, false, false, false, false, false, false, false, false] rfl rfl (zn HT_.out (by kernel_rfl)) (fun _ _ _ h => h) (Or.inl ⟨by rfl, ?_⟩) ?_ ?_
                  rotate_left
                  ·intro w'; go_simp; with_reducible rfl
                  rotate_left
                  ·simp only [Act.put, List.setIfInBounds_toArray, List.set_cons_zero, List.set_cons_succ, zf, zh]; rfl
                  refine zx (i := 5) (N := some 58) (v := ?_) (a' := ?_) #[true, true, true, false, false, true, false, false, false, false, false, false, false, false] rfl rfl (zn HT_.out (by kernel_rfl)) (fun _ _ _ h => h) (Or.inl ⟨by rfl, ?_⟩) ?_ ?_
                  rotate_left
                  ·intro w'; go_simp; with_reducible rfl
                  rotate_left
                  ·simp only [Act.put, List.setIfInBounds_toArray, List.set_cons_zero, List.set_cons_succ, zf, zh]; rfl
                  refine zx (i := 6) (N := some 59) (v := ?_) (a' := ?_) #[true, true, true, false, false, true, true, false, false, false, false, false, false, false] rfl rfl (zn HT_.out (by kernel_rfl)) (fun _ _ _ h => h) (Or.inl ⟨by rfl, ?_⟩) ?_ ?_
                  rotate_left
                  ·intro w'; go_simp; with_reducible rfl
                  rotate_left
                  ·simp only [Act.put, List.setIfInBounds_toArray, List.set_cons_zero, List.set_cons_succ, zf, zh]; rfl
                  refine zx (i := 9) (N := some 62) (v := ?_) (a' := ?_) #[true, true, true, false, false, true, true, false, false, true, false, false, false, false] rfl rfl (zn HT_.out (by kernel_rfl)) (fun _ _ _ h => h) (Or.inl ⟨by rfl, ?_⟩) ?_ ?_
                  rotate_left
                  ·intro w'; go_simp; with_reducible rfl
                  rotate_left
                  ·simp only [Act.put, List.setIfInBounds_toArray, List.set_cons_zero, List.set_cons_succ, zf, zh]; rfl
                  refine qe (i := 3) (N := some 56) (v := ?_) (a' := ?_) #[true, true, true, true, false, true, true, false, false, true, false, false, false, false] rfl rfl (zM HT_.out HW_.out (by kernel_rfl)) (fun _ _ _ h => h) (Or.inl ⟨by rfl, ?_⟩) hHeld ?_ ?_
                  rotate_left
                  ·rintro w' ⟨s0, s1, s2, s3, s4, s5, s6, s7⟩; go_simp; with_reducible rfl
                  rotate_left
                  ·simp only [Act.put, List.setIfInBounds_toArray, List.set_cons_zero, List.set_cons_succ, zf, zh]; rfl
                  refine qe (i := 4) (N := some 57) (v := ?_) (a' := ?_) #[true, true, true, true, true, true, true, false, false, true, false, false, false, false] rfl rfl (zM HT_.out HW_.out (by kernel_rfl)) (fun _ _ _ h => h) (Or.inl ⟨by rfl, ?_⟩) hHeld ?_ ?_
                  rotate_left
                  ·rintro w' ⟨s0, s1, s2, s3, s4, s5, s6, s7⟩; go_simp; with_reducible rfl
                  rotate_left
                  ·simp only [Act.put, List.setIfInBounds_toArray, List.set_cons_zero, List.set_cons_succ, zf, zh]; rfl
                  refine qe (i := 10) (N := some 63) (v := ?_) (a' := ?_) #[true, true, true, true, true, true, true, false, false, true, true, false, false, false] rfl rfl (zM HT_.out HW_.out (by kernel_rfl)) (fun _ _ _ h => h) (Or.inl ⟨by rfl, ?_⟩) hHeld ?_ ?_
                  rotate_left
                  ·rintro w' ⟨s0, s1, s2, s3, s4, s5, s6, s7⟩; go_simp; with_reducible rfl
                  rotate_left
                  ·simp only [Act.put, List.setIfInBounds_toArray, List.set_cons_zero, List.set_cons_succ, zf, zh]; rfl
                  refine Zq (i := 7) (N := some 60) #[true, true, true, true, true, true, true, true, false, true, true, false, false, false] rfl rfl (jr HT_.out (by kernel_rfl)) (by decide) (fun K hK => ?_)
                  refine yX Try.func40 (by kernel_rfl) rfl #[.agg #[.int .i64 t383, .int .i64 t384, .int .i64 t385, .slice Ao56 x393003_1.length co56], .int .i64 x48_2, .int .i64 x7_1] (by rfl) rfl rfl sqM ?_
                  with_reducible refine (q6.calls t383 t384 t385 _ _ x393003_1 x48_2 x7_1 t403 _ ?side1 ?side2 A50.out).mono ?_
                  (case side1 => exact sqC (Kd.zu HO_393003.out).2.2)
                  (case side2 => exact (Kd.zu HO_393003.out).2.1)
                  rintro e w57 ⟨rfl, hb⟩
                  refine ⟨_, rfl, ?_⟩
                  have n0_ := Aside0.mk (Kd.zG (sqR HO_5.out) hb)
                  have n1_ := Aside0.mk (Kd.zG (sqR HO_8.out) hb)
                  have n2_ := Aside0.mk (Kd.zG (sqR HO_46.out) hb)
                  have n3_ := Aside0.mk (Kd.zG (sqR HO_393003.out) hb)
                  have n4_ := Aside0.mk (Kd.zG (sqR HO_397003.out) hb)
                  have n5_ := Aside0.mk (ze (g := gb380) (o := .cells #[.int .i64 a0_0, .int .i64 a0_1, .int .i64 a0_2, .slice A0_3 l0_3.length c0_3] 27 (0, 0)) (sqK BK380.out) hb)
                  have n6_ := Aside0.mk (ze (g := gb381) (o := .cells #[.int .i64 0, .int .i64 0, .int .i64 0, .slice none 0 0] 27 (0, 0)) (sqK BK381.out) hb)
                  have n7_ := Aside0.mk (ze (g := gb392) (o := .cells #[.int .i64 t383, .int .i64 t384, .int .i64 t385, .slice Ao56 x393003_1.length co56] 27 (0, 0)) (sqK BK392.out) hb)
                  have n8_ := Aside0.mk (ze (g := gb396) (o := .cells #[.int .i64 a0_0, .int .i64 (wrap64 (a0_2 - (t389.length : Int))), .int .i64 a0_2, u397003] 27 (0, 0)) (sqK BK396.out) hb)
                  have n9_ := Aside0.mk (zg sqB hb)
                  clear HO_5 HO_8 HO_46 HO_393003 HO_397003 BK380 BK381 BK392 BK396 HB; have HO_5 := n0_; have HO_8 := n1_; have HO_46 := n2_; have HO_393003 := n3_; have HO_397003 := n4_; have BK380 := n5_; have BK381 := n6_; have BK392 := n7_; have BK396 := n8_; have HB := n9_; clear n0_ n1_ n2_ n3_ n4_ n5_ n6_ n7_ n8_ n9_; (try clear hb); (try clear hb2); (try clear hk); (try clear hi)
                  have p54 : 0 ≤ ((rd t389 x48_2) : Int) := of_decide_eq_true sqA
                  have q54 : ((rd t389 x48_2) : Int) < ((x8_2.length : Int) : Int) := of_decide_eq_true sqA
                  obtain ⟨hx54_0, hf54_0⟩ := Kd.qX 0 HO_8.out ((rd t389 x48_2) : Int) p54 q54
                  replace p54 := eq_true p54
                  replace q54 := eq_true q54
                  have HP58 := Kd.Zr HO_8.out ((rd t389 x48_2) : Int) (Int.tmod (wrap64 (a0_0 - t403)) a0_0)
                  rw [← Ny404.out] at HP58
                  have HQ58 := Aside0.mk HP58
                  clear HP58
                  refine hK.out _ _ ⟨(zb BK380.out 0).trans rfl, (zb BK380.out 1).trans rfl, (zb BK380.out 2).trans rfl, (zb BK380.out 3).trans rfl, (zb BK392.out 0).trans rfl, (zb BK392.out 1).trans rfl, (zb BK392.out 2).trans rfl, (zb BK392.out 3).trans rfl⟩ (fun hHeld => ?_)
                  clear hK K
                  refine yi (a' := ?_) ?_ ?_
                  rotate_left
                  ·show Act.put _ (some 60) _ = _; simp only [Act.put, List.setIfInBounds_toArray, List.set_cons_zero, List.set_cons_succ, zf, zh]; rfl
                  refine zx (i := 8) (N := some 61) (v := ?_) (a' := ?_) #[true, true, true, true, true, true, true, true, true, true, true, false, false, false] rfl rfl (zn HT_.out (by kernel_rfl)) (fun _ _ _ h => h) (Or.inl ⟨by rfl, ?_⟩) ?_ ?_
                  rotate_left
                  ·intro w'; go_simp; with_reducible rfl
                  rotate_left
                  ·simp only [Act.put, List.setIfInBounds_toArray, List.set_cons_zero, List.set_cons_succ, zf, zh]; rfl
                  refine zx (i := 11) (N := some 64) (v := ?_) (a' := ?_) #[true, true, true, true, true, true, true, true, true, true, true, true, false, false] rfl rfl (zn HT_.out (by kernel_rfl)) (fun _ _ _ h => h) (Or.inl ⟨by rfl, ?_⟩) ?_ ?_
                  rotate_left
                  ·intro w'; go_simp; with_reducible rfl
                  rotate_left
                  ·simp only [Act.put, List.setIfInBounds_toArray, List.set_cons_zero, List.set_cons_succ, zf, zh]; rfl
                  refine zx (i := 12) (N := some 65) (v := ?_) (a' := ?_) #[true, true, true, true, true, true, true, true, true, true, true, true, true, false] rfl rfl (zn HT_.out (by kernel_rfl)) (fun _ _ _ h => h) (Or.inl ⟨by rfl, ?_⟩) ?_ ?_
                  rotate_left
                  ·intro w'; go_simp; with_reducible rfl
                  rotate_left
                  ·simp only [Act.put, List.setIfInBounds_toArray, List.set_cons_zero, List.set_cons_succ, zf, zh]; rfl
                  refine ym (i := 13) (N := none) #[true, true, true, true, true, true, true, true, true, true, true, true, true, true] rfl rfl (jr HT_.out (by kernel_rfl)) (by decide) (fun K hK => ?_)
                  refine yj (w1 := ?_) (by rfl) rfl ?_ ?_
                  rotate_left
                  ·go_simp
                   rfl
                  refine hK.out _ _ ?_
                  clear hK K
                  refine vI (jO HT_.out (by kernel_rfl)) ?_
                  try go_wp2
                  (try simp only [← hl8_2])
                  go_roundg k2
                  case measure => have := HK1.out; have := HK2.out; omega
                  case rel => exact ⟨(y404), (wrap64 (x48_2 + 1)), (sqD), H', ⟨by have := HK1.out; have := HK2.out; omega⟩, ⟨by (try simp only [hl8_2]); refine sqR ?_; exact Kd.zo (Kd.zj (p := ⟨go38, ((rd t389 x48_2) : Int).toNat, none⟩) (Kd.zo HO_5.out (fun k_ hk => (⟨hk, fun e_ => hk.1 (by rw [e_]; rfl)⟩ : _ ∧ k_ ≠ go38))) (fun _ hk => hk.2) (.int .i64 (Int.tmod (wrap64 (a0_0 - t403)) a0_0))) (fun _ hk => by first | exact ⟨hk.1.1, ⟨hk.1.2.1, hk.1.2.2⟩⟩ | (refine ⟨?_, ?_, ?_⟩ <;> intro e_ <;> simp only [e_, ne_eq, not_true_eq_false, and_false, false_and] at hk))⟩, ⟨by (try simp only [hl8_2]); refine sqR ?_; exact HQ58.out⟩, ⟨by (try simp only [hl8_2]); refine sqR ?_; exact Kd.zo (Kd.zj (p := ⟨go38, ((rd t389 x48_2) : Int).toNat, none⟩) (Kd.zo HO_46.out (fun k_ hk => (⟨hk, fun e_ => hk.1 (by rw [e_]; rfl)⟩ : _ ∧ k_ ≠ go38))) (fun _ hk => hk.2) (.int .i64 (Int.tmod (wrap64 (a0_0 - t403)) a0_0))) (fun _ hk => by first | exact ⟨hk.1.1, ⟨hk.1.2.1, hk.1.2.2⟩⟩ | (refine ⟨?_, ?_, ?_⟩ <;> intro e_ <;> simp only [e_, ne_eq, not_true_eq_false, and_false, false_and] at hk))⟩, ⟨by (try simp only [hl8_2]); refine sqR ?_; exact Kd.zo (Kd.zj (p := ⟨go38, ((rd t389 x48_2) : Int).toNat, none⟩) (Kd.zo HO_393003.out (fun k_ hk => (⟨hk, fun e_ => hk.2.1 (by rw [e_]; rfl)⟩ : _ ∧ k_ ≠ go38))) (fun _ hk => hk.2) (.int .i64 (Int.tmod (wrap64 (a0_0 - t403)) a0_0))) (fun _ hk => ⟨hk.1.1, ⟨hk.1.2.1, ⟨hk.1.2.2.1, hk.1.2.2.2⟩⟩⟩)⟩, ⟨by (try simp only [hl8_2]); refine sqR ?_; exact Kd.zo (Kd.zj (p := ⟨go38, ((rd t389 x48_2) : Int).toNat, none⟩) (Kd.zo HO_397003.out (fun k_ hk => (⟨hk, fun e_ => hk.2.1 (by rw [e_]; rfl)⟩ : _ ∧ k_ ≠ go38))) (fun _ hk => hk.2) (.int .i64 (Int.tmod (wrap64 (a0_0 - t403)) a0_0))) (fun _ hk => ⟨hk.1.1, ⟨hk.1.2.1, ⟨hk.1.2.2.1, hk.1.2.2.2⟩⟩⟩)⟩, ⟨by (try simp only [hl8_2]); refine sqK ?_; refine zi ?_ (by have h_ := Kd.qH HO_8.out BK380.out (by decide); intro e_; exact h_ (by rw [e_]; rfl)) _; refine sqK ?_; exact BK380.out⟩, ⟨by (try simp only [hl8_2]); refine sqK ?_; refine zi ?_ (by have h_ := Kd.qH HO_8.out BK381.out (by decide); intro e_; exact h_ (by rw [e_]; rfl)) _; refine sqK ?_; exact BK381.out⟩, ⟨by (try simp only [hl8_2]); refine sqK ?_; refine zi ?_ (by have h_ := Kd.qH HO_8.out BK392.out (by decide); intro e_; exact h_ (by rw [e_]; rfl)) _; refine sqK ?_; exact BK392.out⟩, ⟨by (try simp only [hl8_2]); refine sqK ?_; refine zi ?_ (by have h_ := Kd.qH HO_8.out BK396.out (by decide); intro e_; exact h_ (by rw [e_]; rfl)) _; refine sqK ?_; exact BK396.out⟩, ⟨by repeat (first | (with_reducible first | exact HB.out | apply qc | apply z6 | apply zT | refine zO ?_ GB38.out | refine zO ?_ GE380.out | refine zO ?_ GE381.out | refine zO ?_ GE392.out | refine zO ?_ GE396.out) | exact HB.out)⟩⟩
                 ·rw [if_neg c53] at H
                  exact absurd H (by simp)
                ·rw [if_neg c52] at H
                 exact absurd H (by simp)
              ·rw [if_neg c49] at H
               exact absurd H (by simp)
             ·rw [if_neg c48] at H
              exact absurd H (by simp)
            ·rw [if_neg c47] at H
             have c47b0 : decide (x48_2 < (t389.length : Int)) = false := decide_eq_false c47
             (try simp only [hl8_2] at c47b0)
             clear c47
             by_cases c59 : x397003_1.length + x8_2.length < 17592186044416
             ·rw [if_pos c59] at H
              have LMc59 := Aside0.mk c59
              clear c59
              obtain ⟨y405, hy405⟩ : ∃ y_ : List Int, y_ = (x397003_1 ++ x8_2) := ⟨_, rfl⟩
              replace H : (zm.l0 k2 t389 (wrap64 (x7_1 + 1)) a0_0 a0_1 a0_2 l0_3 t383 t384 t385 x393003_1 a0_0 (wrap64 (a0_2 - (t389.length : Int))) a0_2 y405) = some (r1, r2, r3, r4, r5) := by first | (rw [hy405]; with_reducible exact H) | (have H2_ := (Option.bind_some _ _).symm.trans H; rw [hy405]; with_reducible exact H2_) | (have H2_ := (Option.bind_some _ _).symm.trans H; with_reducible exact H2_) | with_reducible exact H | (rw [hy405]; exact H) | exact H
              have Ny405 := Aside0.mk hy405
              clear hy405
              have H' := Aside0.mk H
              clear H
              have hnb60 := NB396_380.out
              have hnc60 := NB380_396.out
              have hnb61 := NB396_381.out
              have hnc61 := NB381_396.out
              have hnb62 := NB396_392.out
              have hnc62 := NB392_396.out
              have hcz63_0 : wr.cell? ⟨gb396, 0, none⟩ = some (.int .i64 a0_0) := (zb BK396.out 0).trans rfl
              have hcz63_1 : wr.cell? ⟨gb396, 1, none⟩ = some (.int .i64 (wrap64 (a0_2 - (t389.length : Int)))) := (zb BK396.out 1).trans rfl
              have hcz63_2 : wr.cell? ⟨gb396, 2, none⟩ = some (.int .i64 a0_2) := (zb BK396.out 2).trans rfl
              have hcz63_3 : wr.cell? ⟨gb396, 3, none⟩ = some (u397003) := (zb BK396.out 3).trans rfl
              have hfz63_0 := za BK396.out 0; have hfz63_1 := za BK396.out 1; have hfz63_2 := za BK396.out 2; have hfz63_3 := za BK396.out 3
              go_wp2_with (first | ((with_reducible refine qP (b := .append) (xs := #[.tmp 68, .tmp 69]) rfl ?_); at_builtin; refine Kd.jB (Kd.int .i64) (w0 := w) w.heap.size rfl (.tmp 68) (.tmp 69) 22 3 (.int .i64 0) 8 rfl Try.underlying22 vt rfl (by decide) (by omega) u397003 x397003_1 x8_2 _ _ _ (fun k_ => some k_ ≠ (.slice Ao18 t389.length co18 : Value).ownBlock ∧ some k_ ≠ (.slice (some ⟨go38, 0, none⟩) x8_2.length co38 : Value).ownBlock ∧ some k_ ≠ (.slice Ao18 t389.length co18 : Value).ownBlock ∧ some k_ ≠ (u393003 : Value).ownBlock) (fun _ => False) rfl rfl ?aO ?aR (fun _ _ h => h) (fun _ h => h.elim) ?aF ?aB ?aS ?aL ?_; (case aR => exact sqC (Kd.zu HO_8.out).2.2); (case aB => exact sqB); (case aF => exact (fun k_ hk => ⟨Kd.vE (Kd.jg (sqR HO_5.out)) k_ hk, Kd.vE (Kd.jg (sqR HO_8.out)) k_ hk, Kd.vE (Kd.jg (sqR HO_46.out)) k_ hk, Kd.vE (Kd.jg (sqR HO_393003.out)) k_ hk⟩)); (case aO => exact (sqR HO_397003.out)); (case aS => exact (zJ sqB)); (case aL => have := LMc59.out; omega); intro v406 w64 ho hb hg hat; rw [← Ny405.out] at ho; have n0_ := Aside0.mk (Kd.qY (ok := (fun k_ => some k_ ≠ (.slice (some ⟨go38, 0, none⟩) x8_2.length co38 : Value).ownBlock ∧ some k_ ≠ (u393003 : Value).ownBlock)) (by refine sqR ?_; exact Kd.zo HO_5.out (fun _ hk => ⟨⟨hk.1, hk.2.1⟩, hk.2.2⟩)) hg hat); have n1_ := Aside0.mk (Kd.qY (ok := (fun k_ => some k_ ≠ (.slice Ao18 t389.length co18 : Value).ownBlock ∧ some k_ ≠ (.slice Ao18 t389.length co18 : Value).ownBlock ∧ some k_ ≠ (u393003 : Value).ownBlock)) (by refine sqR ?_; exact Kd.zo HO_8.out (fun _ hk => ⟨⟨hk.1, ⟨hk.2.1, hk.2.2.1⟩⟩, hk.2.2.2⟩)) hg hat); have n2_ := Aside0.mk (Kd.qY (ok := (fun k_ => some k_ ≠ (.slice (some ⟨go38, 0, none⟩) x8_2.length co38 : Value).ownBlock ∧ some k_ ≠ (u393003 : Value).ownBlock)) (by refine sqR ?_; exact Kd.zo HO_46.out (fun _ hk => ⟨⟨hk.1, hk.2.1⟩, hk.2.2⟩)) hg hat); have n3_ := Aside0.mk (Kd.qY (ok := (fun k_ => some k_ ≠ (.slice Ao18 t389.length co18 : Value).ownBlock ∧ some k_ ≠ (.slice (some ⟨go38, 0, none⟩) x8_2.length co38 : Value).ownBlock ∧ some k_ ≠ (.slice Ao18 t389.length co18 : Value).ownBlock)) (by refine sqR ?_; exact Kd.zo HO_393003.out (fun _ hk => ⟨⟨hk.1, ⟨hk.2.1, hk.2.2.1⟩⟩, hk.2.2.2⟩)) hg hat); have n4_ := Aside0.mk (zX (g := gb380) (o := .cells #[.int .i64 a0_0, .int .i64 a0_1, .int .i64 a0_2, .slice A0_3 l0_3.length c0_3] 27 (0, 0)) (sqK BK380.out) hg (Kd.qH HO_397003.out BK380.out (by decide))); have n5_ := Aside0.mk (zX (g := gb381) (o := .cells #[.int .i64 0, .int .i64 0, .int .i64 0, .slice none 0 0] 27 (0, 0)) (sqK BK381.out) hg (Kd.qH HO_397003.out BK381.out (by decide))); have n6_ := Aside0.mk (zX (g := gb392) (o := .cells #[.int .i64 t383, .int .i64 t384, .int .i64 t385, u393003] 27 (0, 0)) (sqK BK392.out) hg (Kd.qH HO_397003.out BK392.out (by decide))); have n7_ := Aside0.mk (zX (g := gb396) (o := .cells #[.int .i64 a0_0, .int .i64 (wrap64 (a0_2 - (t389.length : Int))), .int .i64 a0_2, u397003] 27 (0, 0)) (sqK BK396.out) hg (Kd.qH HO_397003.out BK396.out (by decide))); have n8_ := Aside0.mk (hb); have n9_ := Aside0.mk (ho); clear HO_5; clear HO_8; clear HO_46; clear HO_393003; clear BK380; clear BK381; clear BK392; clear BK396; clear HB; clear HO_397003; have HO_5 := n0_; have HO_8 := n1_; have HO_46 := n2_; have HO_393003 := n3_; have BK380 := n4_; have BK381 := n5_; have BK392 := n6_; have BK396 := n7_; have HB := n8_; have HO407 := n9_; clear n0_ n1_ n2_ n3_ n4_ n5_ n6_ n7_ n8_ n9_; clear ho hb hg hat; obtain ⟨Ao65, co65, eo65⟩ := Kd.zU HO407.out; subst eo65; have hcz66_0 : w64.cell? ⟨gb396, 0, none⟩ = some (.int .i64 a0_0) := (zb BK396.out 0).trans rfl; have hcz66_1 : w64.cell? ⟨gb396, 1, none⟩ = some (.int .i64 (wrap64 (a0_2 - (t389.length : Int)))) := (zb BK396.out 1).trans rfl; have hcz66_2 : w64.cell? ⟨gb396, 2, none⟩ = some (.int .i64 a0_2) := (zb BK396.out 2).trans rfl; have hcz66_3 : w64.cell? ⟨gb396, 3, none⟩ = some (u397003) := (zb BK396.out 3).trans rfl; have hfz66_0 := za BK396.out 0; have hfz66_1 := za BK396.out 1; have hfz66_2 := za BK396.out 2; have hfz66_3 := za BK396.out 3))
              (try simp only [← hl8_2])
              go_roundg k2
              case measure => have := HK1.out; have := HK2.out; omega
              case rel => exact ⟨(wrap64 (x7_1 + 1)), (x393003_1), (y405), (u393003), (.slice Ao65 y405.length co65), (sqD), H', ⟨by have := HK1.out; have := HK2.out; omega⟩, ⟨by (try simp only [hl8_2]); refine sqR ?_; exact Kd.zo (Kd.zj (p := ⟨gb396, 3, none⟩) (Kd.zF HO_5.out BK396.out (by decide)) (fun _ hk => hk.2) (.slice Ao65 y405.length co65)) (fun _ hk => by first | exact ⟨hk.1.1.2, hk.1.2⟩ | (refine ⟨?_, ?_⟩ <;> intro e_ <;> simp only [e_, ne_eq, not_true_eq_false, and_false, false_and] at hk))⟩, ⟨by (try simp only [hl8_2]); refine sqR ?_; exact Kd.zo (Kd.zj (p := ⟨gb396, 3, none⟩) (Kd.zF HO_393003.out BK396.out (by decide)) (fun _ hk => hk.2) (.slice Ao65 y405.length co65)) (fun _ hk => by first | exact ⟨hk.1.1.1, hk.1.2⟩ | (refine ⟨?_, ?_⟩ <;> intro e_ <;> simp only [e_, ne_eq, not_true_eq_false, and_false, false_and] at hk))⟩, ⟨by (try simp only [hl8_2]); refine sqR ?_; exact Kd.zo (Kd.zj (p := ⟨gb396, 3, none⟩) (Kd.zF HO407.out BK396.out (by decide)) (fun _ hk => hk.2) (.slice Ao65 y405.length co65)) (fun _ hk => by first | exact ⟨hk.1.1, hk.1.2.2.2⟩ | (refine ⟨?_, ?_⟩ <;> intro e_ <;> simp only [e_, ne_eq, not_true_eq_false, and_false, false_and] at hk))⟩, ⟨by (try simp only [hl8_2]); refine sqK ?_; refine zi ?_ NB380_396.out _; refine sqK ?_; exact BK380.out⟩, ⟨by (try simp only [hl8_2]); refine sqK ?_; refine zi ?_ NB381_396.out _; refine sqK ?_; exact BK381.out⟩, ⟨by (try simp only [hl8_2]); refine sqK ?_; refine zi ?_ NB392_396.out _; refine sqK ?_; exact BK392.out⟩, ⟨by (try simp only [hl8_2]); refine sqK ?_; refine zy (cs := #[.int .i64 a0_0, .int .i64 (wrap64 (a0_2 - (t389.length : Int))), .int .i64 a0_2, u397003]) ?_ 3 _ rfl; refine sqK ?_; exact BK396.out⟩, ⟨sqB⟩⟩
             ·rw [if_neg c59] at H
              exact absurd H (by simp)
         ·rw [if_neg c37] at H
          exact absurd H (by simp)
        ·rw [if_neg c36] at H
         exact absurd H (by simp)
       ·rw [if_neg c35] at H
        exact absurd H (by simp)
      ·rw [if_neg c34] at H
       exact absurd H (by simp)
    ·rw [if_neg c27] at H
     have c27b0 : decide (x7_1 < a0_2) = false := decide_eq_false c27
     clear c27
     simp only [Option.some.injEq, Prod.mk.injEq] at H
     obtain ⟨rfl, rfl, rfl, rfl, rfl⟩ := H
     have hnb67 := NB380_381.out
     have hnc67 := NB381_380.out
     have hnb68 := NB380_392.out
     have hnc68 := NB392_380.out
     have hnb69 := NB380_396.out
     have hnc69 := NB396_380.out
     have hcz70_0 : wr.cell? ⟨gb380, 0, none⟩ = some (.int .i64 a0_0) := (zb BK380.out 0).trans rfl
     have hcz70_1 : wr.cell? ⟨gb380, 1, none⟩ = some (.int .i64 a0_1) := (zb BK380.out 1).trans rfl
     have hcz70_2 : wr.cell? ⟨gb380, 2, none⟩ = some (.int .i64 a0_2) := (zb BK380.out 2).trans rfl
     have hcz70_3 : wr.cell? ⟨gb380, 3, none⟩ = some (.slice A0_3 l0_3.length c0_3) := (zb BK380.out 3).trans rfl
     have hfz70_0 := za BK380.out 0; have hfz70_1 := za BK380.out 1; have hfz70_2 := za BK380.out 2; have hfz70_3 := za BK380.out 3
     have hnb71 := NB396_381.out
     have hnc71 := NB381_396.out
     have hnb72 := NB396_392.out
     have hnc72 := NB392_396.out
     have hcz73_0 : wr.cell? ⟨gb396, 0, none⟩ = some (.int .i64 a0_0) := (zb BK396.out 0).trans rfl
     have hcz73_1 : wr.cell? ⟨gb396, 1, none⟩ = some (.int .i64 (wrap64 (a0_2 - (t389.length : Int)))) := (zb BK396.out 1).trans rfl
     have hcz73_2 : wr.cell? ⟨gb396, 2, none⟩ = some (.int .i64 a0_2) := (zb BK396.out 2).trans rfl
     have hcz73_3 : wr.cell? ⟨gb396, 3, none⟩ = some (u397003) := (zb BK396.out 3).trans rfl
     have hfz73_0 := za BK396.out 0; have hfz73_1 := za BK396.out 1; have hfz73_2 := za BK396.out 2; have hfz73_3 := za BK396.out 3
     have hnb74 := NB381_392.out
     have hnc74 := NB392_381.out
     have hcz75_0 : wr.cell? ⟨gb381, 0, none⟩ = some (.int .i64 0) := (zb BK381.out 0).trans rfl
     have hcz75_1 : wr.cell? ⟨gb381, 1, none⟩ = some (.int .i64 0) := (zb BK381.out 1).trans rfl
     have hcz75_2 : wr.cell? ⟨gb381, 2, none⟩ = some (.int .i64 0) := (zb BK381.out 2).trans rfl
     have hcz75_3 : wr.cell? ⟨gb381, 3, none⟩ = some (.slice none 0 0) := (zb BK381.out 3).trans rfl
     have hfz75_0 := za BK381.out 0; have hfz75_1 := za BK381.out 1; have hfz75_2 := za BK381.out 2; have hfz75_3 := za BK381.out 3
     obtain ⟨Ao76, co76, eo76⟩ := Kd.zU HO_397003.out
     subst eo76
     go_wp2
     refine bodyPost_ret (vz rfl _ _ gb381 27 #[.int .i64 a0_0, .int .i64 (wrap64 (a0_2 - (t389.length : Int))), .int .i64 a0_2, .slice Ao76 x397003_1.length co76] (0, 0) _ rfl (by refine sqK ?_; refine zy (cs := #[.int .i64 a0_0, .int .i64 (wrap64 (a0_2 - (t389.length : Int))), .int .i64 a0_2, .slice none 0 0]) ?_ 3 _ rfl; refine sqK ?_; refine zy (cs := #[.int .i64 a0_0, .int .i64 (wrap64 (a0_2 - (t389.length : Int))), .int .i64 0, .slice none 0 0]) ?_ 2 _ rfl; refine sqK ?_; refine zy (cs := #[.int .i64 a0_0, .int .i64 0, .int .i64 0, .slice none 0 0]) ?_ 1 _ rfl; refine sqK ?_; refine zy (cs := #[.int .i64 0, .int .i64 0, .int .i64 0, .slice none 0 0]) ?_ 0 _ rfl; refine sqK ?_; exact BK381.out) Try.underlying27 rfl (by kernel_rfl)) rfl ?_
     exact ⟨_, sqE, by refine sqR ?_; exact Kd.zo (Kd.zj (p := ⟨gb381, 3, none⟩) (Kd.zj (p := ⟨gb381, 2, none⟩) (Kd.zj (p := ⟨gb381, 1, none⟩) (Kd.zj (p := ⟨gb381, 0, none⟩) (Kd.zF HO_397003.out BK381.out (by decide)) (fun _ hk => hk.2) (.int .i64 a0_0)) (fun _ hk => hk.2) (.int .i64 (wrap64 (a0_2 - (t389.length : Int))))) (fun _ hk => hk.2) (.int .i64 a0_2)) (fun _ hk => hk.2) (.slice Ao76 x397003_1.length co76)) (fun _ hk => trivial), sqB⟩
 ·replace c3 := Bool.eq_false_iff.mpr c3
  subst c3
  have H1 : (some (0, 0, 0, ([] : List Int), false)) = some (r1, r2, r3, r4, r5) := by rw [if_neg (show ¬ (false = true) by decide)] at H; exact H
  clear H
  have H := H1
  clear H1
  simp only [Option.some.injEq, Prod.mk.injEq] at H
  obtain ⟨rfl, rfl, rfl, rfl, rfl⟩ := H
  go_enter Try.func35, Try.ntmps35
  go_wp2_with (first | ((with_reducible refine zC (N := 1) rfl ?_); refine zD ?hg (N := 1) ?hd (cs := #[.int .i64 a0_0, .int .i64 a0_1, .int .i64 a0_2, .slice A0_3 l0_3.length c0_3]) (t := 27) ?hr ?_; (case hd => rfl); (case hg => rfl); (case hr => exact sqG); intro gb380 hg w77 hbox hb; have n0_ := Aside0.mk (zg sqB hb); have n1_ := Aside0.mk (hbox); have n2_ := Aside0.mk ((sqS hg : w.heap.size ≤ gb380)); have n3_ := Aside0.mk ((sqS hg : w.heap.size ≤ gb380)); clear HB; have HB := n0_; have BK380 := n1_; have GW380 := n2_; have GE380 := n3_; clear n0_ n1_ n2_ n3_; clear hb hbox hg) | ((with_reducible refine zC (N := 2) rfl ?_); refine zD ?hg (N := 2) ?hd (cs := #[.int .i64 0, .int .i64 0, .int .i64 0, .slice none 0 0]) (t := 27) ?hr ?_; (case hd => rfl); (case hg => rfl); (case hr => exact sqG); intro gb381 hg w78 hbox hb; have n0_ := Aside0.mk (ze (g := gb380) (o := .cells #[.int .i64 a0_0, .int .i64 a0_1, .int .i64 a0_2, .slice A0_3 l0_3.length c0_3] 27 (0, 0)) (sqK BK380.out) hb); have n1_ := Aside0.mk (zg sqB hb); have n2_ := Aside0.mk (hbox); have n3_ := Aside0.mk ((sqS hg : w.heap.size ≤ gb381)); have n4_ := Aside0.mk ((sqS hg : w.heap.size ≤ gb381)); have n5_ := Aside0.mk ((by rw [hg]; exact Nat.ne_of_lt (zI (g := gb380) (o := .cells #[.int .i64 a0_0, .int .i64 a0_1, .int .i64 a0_2, .slice A0_3 l0_3.length c0_3] 27 (0, 0)) (sqK BK380.out)) : gb380 ≠ gb381)); have n6_ := Aside0.mk ((by rw [hg]; exact Nat.ne_of_gt (zI (g := gb380) (o := .cells #[.int .i64 a0_0, .int .i64 a0_1, .int .i64 a0_2, .slice A0_3 l0_3.length c0_3] 27 (0, 0)) (sqK BK380.out)) : gb381 ≠ gb380)); clear BK380; clear HB; have BK380 := n0_; have HB := n1_; have BK381 := n2_; have GW381 := n3_; have GE381 := n4_; have NB380_381 := n5_; have NB381_380 := n6_; clear n0_ n1_ n2_ n3_ n4_ n5_ n6_; clear hb hbox hg; have hnb79 := NB380_381.out; have hnc79 := NB381_380.out; have hcz80_0 : w78.cell? ⟨gb380, 0, none⟩ = some (.int .i64 a0_0) := (zb BK380.out 0).trans rfl; have hcz80_1 : w78.cell? ⟨gb380, 1, none⟩ = some (.int .i64 a0_1) := (zb BK380.out 1).trans rfl; have hcz80_2 : w78.cell? ⟨gb380, 2, none⟩ = some (.int .i64 a0_2) := (zb BK380.out 2).trans rfl; have hcz80_3 : w78.cell? ⟨gb380, 3, none⟩ = some (.slice A0_3 l0_3.length c0_3) := (zb BK380.out 3).trans rfl; have hfz80_0 := za BK380.out 0; have hfz80_1 := za BK380.out 1; have hfz80_2 := za BK380.out 2; have hfz80_3 := za BK380.out 3) | ((with_reducible refine zp (f := 39) rfl ?_); refine zP (some 12) rfl rfl Try.func39 (by kernel_rfl) rfl #[.agg #[.int .i64 a0_0, .int .i64 a0_1, .int .i64 a0_2, .slice A0_3 l0_3.length c0_3]] rfl sqM ?_; (with_reducible refine (zv.calls k a0_0 a0_1 a0_2 _ _ l0_3 false _ ?side1 ?side2 A2.out).mono ?_); (case side1 => exact sqC (Kd.z1 HR0_3.out HB.out)); (case side2 => exact HC0_3.out); rintro e w81 ⟨rfl, hb⟩; refine ⟨_, rfl, ?_⟩; have n0_ := Aside0.mk (ze (g := gb380) (o := .cells #[.int .i64 a0_0, .int .i64 a0_1, .int .i64 a0_2, .slice A0_3 l0_3.length c0_3] 27 (0, 0)) (sqK BK380.out) hb); have n1_ := Aside0.mk (ze (g := gb381) (o := .cells #[.int .i64 0, .int .i64 0, .int .i64 0, .slice none 0 0] 27 (0, 0)) (sqK BK381.out) hb); have n2_ := Aside0.mk (zg sqB hb); clear BK380; clear BK381; clear HB; have BK380 := n0_; have BK381 := n1_; have HB := n2_; clear n0_ n1_ n2_; (try clear hb); (try clear hb2); (try clear hk); (try clear hi); have hcz82_0 : w81.cell? ⟨gb381, 0, none⟩ = some (.int .i64 0) := (zb BK381.out 0).trans rfl; have hcz82_1 : w81.cell? ⟨gb381, 1, none⟩ = some (.int .i64 0) := (zb BK381.out 1).trans rfl; have hcz82_2 : w81.cell? ⟨gb381, 2, none⟩ = some (.int .i64 0) := (zb BK381.out 2).trans rfl; have hcz82_3 : w81.cell? ⟨gb381, 3, none⟩ = some (.slice none 0 0) := (zb BK381.out 3).trans rfl; have hfz82_0 := za BK381.out 0; have hfz82_1 := za BK381.out 1; have hfz82_2 := za BK381.out 2; have hfz82_3 := za BK381.out 3))
  refine bodyPost_ret (vz rfl _ _ gb381 27 #[.int .i64 0, .int .i64 0, .int .i64 0, .slice none 0 0] (0, 0) _ rfl (by refine sqK ?_; refine zy (cs := #[.int .i64 0, .int .i64 0, .int .i64 0, .slice none 0 0]) ?_ 3 _ rfl; refine sqK ?_; refine zy (cs := #[.int .i64 0, .int .i64 0, .int .i64 0, .slice none 0 0]) ?_ 2 _ rfl; refine sqK ?_; refine zy (cs := #[.int .i64 0, .int .i64 0, .int .i64 0, .slice none 0 0]) ?_ 1 _ rfl; refine sqK ?_; refine zy (cs := #[.int .i64 0, .int .i64 0, .int .i64 0, .slice none 0 0]) ?_ 0 _ rfl; refine sqK ?_; exact BK381.out) Try.underlying27 rfl (by kernel_rfl)) rfl ?_
  exact ⟨_, sqE, sqN, sqB⟩

end Go.Proofs.Ytopkfhnnapncgaa.F
end
section
namespace Go.Proofs.Ytopkfhnnapncgaa.F
open Go.RowKit Go.Proofs.YtopkfhnnapncgaaW.PrintWords Go.Proofs.YtopkfhnnapncgaaW.PrintLast Go.Proofs.YtopkfhnnapncgaaW.PrintMore
attribute [local go_sem] jG jE jY j8 jl jk jK jM   -- for this text's walks alone
set_option linter.unusedVariables false
set_option linter.unusedSimpArgs false

mutual
def zc.j0 : Nat → Bool → Bool → Bool → Int → Int → Int → List Int → Int → Int → Int → List Int → Int → Int → Int → List Int → Int → Int → Int → List Int → Option (Bool)
 | 0, _, _, _, _, _, _, _, _, _, _, _, _, _, _, _, _, _, _, _ => none
 | k + 1, x5, x8, x40, x409000, x409001, x409002, x409003, x424000, x424001, x424002, x424003, x431000, x431001, x431002, x431003, x439000, x439001, x439002, x439003 => if x40 = true then (none) else ((zE.f k x409000 x409001 x409002 x409003).bind fun bt440 => ((zB.f k x431000 x431001 x431002 x431003 bt440.1 bt440.2.1 bt440.2.2.1 bt440.2.2.2).bind fun t446 => (if t446 = true then ((qk.f k x431000 x431001 x431002 x431003 1).bind fun bt447 => (if bt447.1 < 0 then (zc.j1 k x5 true x409000 x409001 x409002 x409003 x424000 x424001 x424002 x424003 x439000 x439001 x439002 x439003) else ((zB.f k x439000 x439001 x439002 x439003 x424000 x424001 x424002 x424003).bind fun t449 => (if t449 = true then (zc.j1 k x5 (x8 != x5) x409000 x409001 x409002 x409003 x424000 x424001 x424002 x424003 x439000 x439001 x439002 x439003) else (zc.j1 k x5 true x409000 x409001 x409002 x409003 x424000 x424001 x424002 x424003 x439000 x439001 x439002 x439003))))) else (none))))
def zc.j1 : Nat → Bool → Bool → Int → Int → Int → List Int → Int → Int → Int → List Int → Int → Int → Int → List Int → Option (Bool)
 | 0, _, _, _, _, _, _, _, _, _, _, _, _, _, _ => none
 | k + 1, x5, x61, x409000, x409001, x409002, x409003, x424000, x424001, x424002, x424003, x439000, x439001, x439002, x439003 => if x61 = true then (none) else ((qk.f k x439000 x439001 x439002 x439003 1).bind fun bt450 => ((qz.f k x439000 x439001 x439002 bt450.2 1).bind fun t452 => (if t452 < 0 then (none) else (if t452 = bt450.1 then ((zE.f k x409000 x409001 x409002 x409003).bind fun bt453 => ((zm.f k bt453.1 bt453.2.1 bt453.2.2.1 bt453.2.2.2).bind fun bt459 => ((zB.f k bt459.1 bt459.2.1 bt459.2.2.1 bt459.2.2.2.1 x424000 x424001 x424002 x424003).bind fun t467 => (if t467 = true then (zc.j2 k bt450.1 (bt459.2.2.2.2 != x5) x439000 x439001 x439002 bt450.2) else (zc.j2 k bt450.1 true x439000 x439001 x439002 bt450.2))))) else (none)))))
def zc.j2 : Nat → Int → Bool → Int → Int → Int → List Int → Option (Bool)
 | 0, _, _, _, _, _, _ => none
 | k + 1, x10, x87, x439000, x439001, x439002, x439003 => if x87 = true then (none) else ((qz.f k x439000 x439001 x439002 x439003 1).bind fun t468 => (if t468 < 0 then (none) else (if t468 = x10 then (some true) else (none))))
end
def zc.f (k : Nat) (a0_0 : Int) (a0_1 : Int) (a0_2 : Int) (l0_3 : List Int) : Option (Bool) := (qD.f a0_0 a0_1 a0_2 l0_3 1048576).bind fun t409 => (if t409 < 0 then (some true) else ((zE.f k a0_0 a0_1 a0_2 l0_3).bind fun bt410 => ((zr.f k bt410.1 bt410.2.1 bt410.2.2.1 bt410.2.2.2).bind fun bt416 => ((zE.f k a0_0 a0_1 a0_2 l0_3).bind fun bt424 => ((zm.f k bt424.1 bt424.2.1 bt424.2.2.1 bt424.2.2.2).bind fun bt431 => ((zB.f k bt431.1 bt431.2.1 bt431.2.2.1 bt431.2.2.2.1 bt416.1 bt416.2.1 bt416.2.2.1 bt416.2.2.2.1).bind fun t439 => (if t439 = true then (zc.j0 k bt416.2.2.2.2 bt431.2.2.2.2 (bt431.2.2.2.2 != bt416.2.2.2.2) a0_0 a0_1 a0_2 l0_3 bt416.1 bt416.2.1 bt416.2.2.1 bt416.2.2.2.1 bt424.1 bt424.2.1 bt424.2.2.1 bt424.2.2.2 bt431.1 bt431.2.1 bt431.2.2.1 bt431.2.2.2.1) else (zc.j0 k bt416.2.2.2.2 bt431.2.2.2.2 true a0_0 a0_1 a0_2 l0_3 bt416.1 bt416.2.1 bt416.2.2.1 bt416.2.2.2.1 bt424.1 bt424.2.1 bt424.2.2.1 bt424.2.2.2 bt431.1 bt431.2.1 bt431.2.2.1 bt431.2.2.2.1))))))))
theorem zc.calls (k : Nat) (a0_0 : Int) (a0_1 : Int) (a0_2 : Int) (A0_3 : Option Addr) (c0_3 : Nat) (l0_3 : List Int) (r : Bool) (w : World) (hr0_3 : Kd.C (Kd.int .i64) w A0_3 l0_3.length l0_3) (hc0_3 : l0_3.length ≤ c0_3) (h : zc.f k a0_0 a0_1 a0_2 l0_3 = some r) :
  Calls Try.prog 10 #[.agg #[.int .i64 a0_0, .int .i64 a0_1, .int .i64 a0_2, .slice A0_3 l0_3.length c0_3]] w fun e w' => e = .returned (.bool r) ∧ Below w.heap.size w w' := by
 have hu24 := Try.underlying24
 have hu27 := Try.underlying27
 have HR0_3 := Aside0.mk hr0_3
 have HC0_3 := Aside0.mk hc0_3
 clear hr0_3 hc0_3
 have HB := Aside0.mk (Below.refl w.heap.size w)
 have H : ((qD.f a0_0 a0_1 a0_2 l0_3 1048576).bind fun t409 => (if t409 < 0 then (some true) else ((zE.f k a0_0 a0_1 a0_2 l0_3).bind fun bt410 => ((zr.f k bt410.1 bt410.2.1 bt410.2.2.1 bt410.2.2.2).bind fun bt416 => ((zE.f k a0_0 a0_1 a0_2 l0_3).bind fun bt424 => ((zm.f k bt424.1 bt424.2.1 bt424.2.2.1 bt424.2.2.2).bind fun bt431 => ((zB.f k bt431.1 bt431.2.1 bt431.2.2.1 bt431.2.2.2.1 bt416.1 bt416.2.1 bt416.2.2.1 bt416.2.2.2.1).bind fun t439 => (if t439 = true then (zc.j0 k bt416.2.2.2.2 bt431.2.2.2.2 (bt431.2.2.2.2 != bt416.2.2.2.2) a0_0 a0_1 a0_2 l0_3 bt416.1 bt416.2.1 bt416.2.2.1 bt416.2.2.2.1 bt424.1 bt424.2.1 bt424.2.2.1 bt424.2.2.2 bt431.1 bt431.2.1 bt431.2.2.1 bt431.2.2.2.1) else (zc.j0 k bt416.2.2.2.2 bt431.2.2.2.2 true a0_0 a0_1 a0_2 l0_3 bt416.1 bt416.2.1 bt416.2.2.1 bt416.2.2.2.1 bt424.1 bt424.2.1 bt424.2.2.1 bt424.2.2.2 bt431.1 bt431.2.1 bt431.2.2.1 bt431.2.2.2.1))))))))) = some r := h
 clear h
 replace H := Option.bind_eq_some_iff.mp H
 obtain ⟨t409, A20, H⟩ := H
 replace H : (if t409 < 0 then (some true) else ((zE.f k a0_0 a0_1 a0_2 l0_3).bind fun bt410 => ((zr.f k bt410.1 bt410.2.1 bt410.2.2.1 bt410.2.2.2).bind fun bt416 => ((zE.f k a0_0 a0_1 a0_2 l0_3).bind fun bt424 => ((zm.f k bt424.1 bt424.2.1 bt424.2.2.1 bt424.2.2.2).bind fun bt431 => ((zB.f k bt431.1 bt431.2.1 bt431.2.2.1 bt431.2.2.2.1 bt416.1 bt416.2.1 bt416.2.2.1 bt416.2.2.2.1).bind fun t439 => (if t439 = true then (zc.j0 k bt416.2.2.2.2 bt431.2.2.2.2 (bt431.2.2.2.2 != bt416.2.2.2.2) a0_0 a0_1 a0_2 l0_3 bt416.1 bt416.2.1 bt416.2.2.1 bt416.2.2.2.1 bt424.1 bt424.2.1 bt424.2.2.1 bt424.2.2.2 bt431.1 bt431.2.1 bt431.2.2.1 bt431.2.2.2.1) else (zc.j0 k bt416.2.2.2.2 bt431.2.2.2.2 true a0_0 a0_1 a0_2 l0_3 bt416.1 bt416.2.1 bt416.2.2.1 bt416.2.2.2.1 bt424.1 bt424.2.1 bt424.2.2.1 bt424.2.2.2 bt431.1 bt431.2.1 bt431.2.2.1 bt431.2.2.2.1)))))))) = some r := H
 have A2 := Aside0.mk A20
 clear A20
 by_cases c3 : t409 < 0
 ·rw [if_pos c3] at H
  have c3b0 : decide (t409 < 0) = true := decide_eq_true c3
  clear c3
  obtain rfl := Option.some.inj H
  go_enter Try.func10, Try.ntmps10
  go_wp2_with (first | ((with_reducible refine zC (N := 1) rfl ?_); refine zD ?hg (N := 1) ?hd (cs := #[.int .i64 a0_0, .int .i64 a0_1, .int .i64 a0_2, .slice A0_3 l0_3.length c0_3]) (t := 24) ?hr ?_; (case hd => rfl); (case hg => rfl); (case hr => exact sqG); intro gb408 hg w4 hbox hb; have n0_ := Aside0.mk (zg sqB hb); have n1_ := Aside0.mk (hbox); have n2_ := Aside0.mk ((sqS hg : w.heap.size ≤ gb408)); have n3_ := Aside0.mk ((sqS hg : w.heap.size ≤ gb408)); clear HB; have HB := n0_; have BK408 := n1_; have GW408 := n2_; have GE408 := n3_; clear n0_ n1_ n2_ n3_; clear hb hbox hg; have hcz5_0 : w4.cell? ⟨gb408, 0, none⟩ = some (.int .i64 a0_0) := (zb BK408.out 0).trans rfl; have hcz5_1 : w4.cell? ⟨gb408, 1, none⟩ = some (.int .i64 a0_1) := (zb BK408.out 1).trans rfl; have hcz5_2 : w4.cell? ⟨gb408, 2, none⟩ = some (.int .i64 a0_2) := (zb BK408.out 2).trans rfl; have hcz5_3 : w4.cell? ⟨gb408, 3, none⟩ = some (.slice A0_3 l0_3.length c0_3) := (zb BK408.out 3).trans rfl; have hfz5_0 := za BK408.out 0; have hfz5_1 := za BK408.out 1; have hfz5_2 := za BK408.out 2; have hfz5_3 := za BK408.out 3) | ((with_reducible refine zp (f := 11) rfl ?_); refine zP (some 16) rfl rfl Try.func11 (by kernel_rfl) rfl #[.agg #[.int .i64 a0_0, .int .i64 a0_1, .int .i64 a0_2, .slice A0_3 l0_3.length c0_3], .int .i64 1048576] rfl sqM ?_; (with_reducible refine (qD.calls a0_0 a0_1 a0_2 _ _ l0_3 1048576 t409 _ ?side1 ?side2 A2.out).mono ?_); (case side1 => exact sqC (Kd.z1 HR0_3.out HB.out)); (case side2 => exact HC0_3.out); rintro e w6 ⟨rfl, hb⟩; refine ⟨_, rfl, ?_⟩; have n0_ := Aside0.mk (ze (g := gb408) (o := .cells #[.int .i64 a0_0, .int .i64 a0_1, .int .i64 a0_2, .slice A0_3 l0_3.length c0_3] 24 (0, 0)) (sqK BK408.out) hb); have n1_ := Aside0.mk (zg sqB hb); clear BK408; clear HB; have BK408 := n0_; have HB := n1_; clear n0_ n1_; (try clear hb); (try clear hb2); (try clear hk); (try clear hi)))
  go_ret
  exact ⟨sqE, sqB⟩
 ·rw [if_neg c3] at H
  have c3b0 : decide (t409 < 0) = false := decide_eq_false c3
  clear c3
  replace H := Option.bind_eq_some_iff.mp H
  obtain ⟨⟨t410, t411, t412, t413⟩, A70, H⟩ := H
  replace H : ((zr.f k t410 t411 t412 t413).bind fun bt416 => ((zE.f k a0_0 a0_1 a0_2 l0_3).bind fun bt424 => ((zm.f k bt424.1 bt424.2.1 bt424.2.2.1 bt424.2.2.2).bind fun bt431 => ((zB.f k bt431.1 bt431.2.1 bt431.2.2.1 bt431.2.2.2.1 bt416.1 bt416.2.1 bt416.2.2.1 bt416.2.2.2.1).bind fun t439 => (if t439 = true then (zc.j0 k bt416.2.2.2.2 bt431.2.2.2.2 (bt431.2.2.2.2 != bt416.2.2.2.2) a0_0 a0_1 a0_2 l0_3 bt416.1 bt416.2.1 bt416.2.2.1 bt416.2.2.2.1 bt424.1 bt424.2.1 bt424.2.2.1 bt424.2.2.2 bt431.1 bt431.2.1 bt431.2.2.1 bt431.2.2.2.1) else (zc.j0 k bt416.2.2.2.2 bt431.2.2.2.2 true a0_0 a0_1 a0_2 l0_3 bt416.1 bt416.2.1 bt416.2.2.1 bt416.2.2.2.1 bt424.1 bt424.2.1 bt424.2.2.1 bt424.2.2.2 bt431.1 bt431.2.1 bt431.2.2.1 bt431.2.2.2.1)))))) = some r := H
  have A7 := Aside0.mk A70
  clear A70
  replace H := Option.bind_eq_some_iff.mp H
  obtain ⟨⟨t416, t417, t418, t419, t422⟩, A80, H⟩ := H
  replace H : ((zE.f k a0_0 a0_1 a0_2 l0_3).bind fun bt424 => ((zm.f k bt424.1 bt424.2.1 bt424.2.2.1 bt424.2.2.2).bind fun bt431 => ((zB.f k bt431.1 bt431.2.1 bt431.2.2.1 bt431.2.2.2.1 t416 t417 t418 t419).bind fun t439 => (if t439 = true then (zc.j0 k t422 bt431.2.2.2.2 (bt431.2.2.2.2 != t422) a0_0 a0_1 a0_2 l0_3 t416 t417 t418 t419 bt424.1 bt424.2.1 bt424.2.2.1 bt424.2.2.2 bt431.1 bt431.2.1 bt431.2.2.1 bt431.2.2.2.1) else (zc.j0 k t422 bt431.2.2.2.2 true a0_0 a0_1 a0_2 l0_3 t416 t417 t418 t419 bt424.1 bt424.2.1 bt424.2.2.1 bt424.2.2.2 bt431.1 bt431.2.1 bt431.2.2.1 bt431.2.2.2.1))))) = some r := H
  have A8 := Aside0.mk A80
  clear A80
  replace H := Option.bind_eq_some_iff.mp H
  obtain ⟨⟨t424, t425, t426, t427⟩, A90, H⟩ := H
  replace H : ((zm.f k t424 t425 t426 t427).bind fun bt431 => ((zB.f k bt431.1 bt431.2.1 bt431.2.2.1 bt431.2.2.2.1 t416 t417 t418 t419).bind fun t439 => (if t439 = true then (zc.j0 k t422 bt431.2.2.2.2 (bt431.2.2.2.2 != t422) a0_0 a0_1 a0_2 l0_3 t416 t417 t418 t419 t424 t425 t426 t427 bt431.1 bt431.2.1 bt431.2.2.1 bt431.2.2.2.1) else (zc.j0 k t422 bt431.2.2.2.2 true a0_0 a0_1 a0_2 l0_3 t416 t417 t418 t419 t424 t425 t426 t427 bt431.1 bt431.2.1 bt431.2.2.1 bt431.2.2.2.1)))) = some r := H
  have A9 := Aside0.mk A90
  clear A90
  replace H := Option.bind_eq_some_iff.mp H
  obtain ⟨⟨t431, t432, t433, t434, t437⟩, A100, H⟩ := H
  replace H : ((zB.f k t431 t432 t433 t434 t416 t417 t418 t419).bind fun t439 => (if t439 = true then (zc.j0 k t422 t437 (t437 != t422) a0_0 a0_1 a0_2 l0_3 t416 t417 t418 t419 t424 t425 t426 t427 t431 t432 t433 t434) else (zc.j0 k t422 t437 true a0_0 a0_1 a0_2 l0_3 t416 t417 t418 t419 t424 t425 t426 t427 t431 t432 t433 t434))) = some r := H
  have A10 := Aside0.mk A100
  clear A100
  have HC11 := Aside0.mk H
  clear H
  go_enter Try.func10, Try.ntmps10
  go_upto_region 8 with (first | ((with_reducible refine zC (N := 1) rfl ?_); refine zD ?hg (N := 1) ?hd (cs := #[.int .i64 a0_0, .int .i64 a0_1, .int .i64 a0_2, .slice A0_3 l0_3.length c0_3]) (t := 24) ?hr ?_; (case hd => rfl); (case hg => rfl); (case hr => exact sqG); intro gb408 hg w12 hbox hb; have n0_ := Aside0.mk (zg sqB hb); have n1_ := Aside0.mk (hbox); have n2_ := Aside0.mk ((sqS hg : w.heap.size ≤ gb408)); have n3_ := Aside0.mk ((sqS hg : w.heap.size ≤ gb408)); clear HB; have HB := n0_; have BK408 := n1_; have GW408 := n2_; have GE408 := n3_; clear n0_ n1_ n2_ n3_; clear hb hbox hg; have hcz13_0 : w12.cell? ⟨gb408, 0, none⟩ = some (.int .i64 a0_0) := (zb BK408.out 0).trans rfl; have hcz13_1 : w12.cell? ⟨gb408, 1, none⟩ = some (.int .i64 a0_1) := (zb BK408.out 1).trans rfl; have hcz13_2 : w12.cell? ⟨gb408, 2, none⟩ = some (.int .i64 a0_2) := (zb BK408.out 2).trans rfl; have hcz13_3 : w12.cell? ⟨gb408, 3, none⟩ = some (.slice A0_3 l0_3.length c0_3) := (zb BK408.out 3).trans rfl; have hfz13_0 := za BK408.out 0; have hfz13_1 := za BK408.out 1; have hfz13_2 := za BK408.out 2; have hfz13_3 := za BK408.out 3) | ((with_reducible refine zp (f := 11) rfl ?_); refine zP (some 16) rfl rfl Try.func11 (by kernel_rfl) rfl #[.agg #[.int .i64 a0_0, .int .i64 a0_1, .int .i64 a0_2, .slice A0_3 l0_3.length c0_3], .int .i64 1048576] rfl sqM ?_; (with_reducible refine (qD.calls a0_0 a0_1 a0_2 _ _ l0_3 1048576 t409 _ ?side1 ?side2 A2.out).mono ?_); (case side1 => exact sqC (Kd.z1 HR0_3.out HB.out)); (case side2 => exact HC0_3.out); rintro e w14 ⟨rfl, hb⟩; refine ⟨_, rfl, ?_⟩; have n0_ := Aside0.mk (ze (g := gb408) (o := .cells #[.int .i64 a0_0, .int .i64 a0_1, .int .i64 a0_2, .slice A0_3 l0_3.length c0_3] 24 (0, 0)) (sqK BK408.out) hb); have n1_ := Aside0.mk (zg sqB hb); clear BK408; clear HB; have BK408 := n0_; have HB := n1_; clear n0_ n1_; (try clear hb); (try clear hb2); (try clear hk); (try clear hi); have hcz15_0 : w14.cell? ⟨gb408, 0, none⟩ = some (.int .i64 a0_0) := (zb BK408.out 0).trans rfl; have hcz15_1 : w14.cell? ⟨gb408, 1, none⟩ = some (.int .i64 a0_1) := (zb BK408.out 1).trans rfl; have hcz15_2 : w14.cell? ⟨gb408, 2, none⟩ = some (.int .i64 a0_2) := (zb BK408.out 2).trans rfl; have hcz15_3 : w14.cell? ⟨gb408, 3, none⟩ = some (.slice A0_3 l0_3.length c0_3) := (zb BK408.out 3).trans rfl; have hfz15_0 := za BK408.out 0; have hfz15_1 := za BK408.out 1; have hfz15_2 := za BK408.out 2; have hfz15_3 := za BK408.out 3) | ((with_reducible refine zp (f := 13) rfl ?_); refine zP (some 21) rfl rfl Try.func13 (by kernel_rfl) rfl #[.agg #[.int .i64 a0_0, .int .i64 a0_1, .int .i64 a0_2, .slice A0_3 l0_3.length c0_3]] rfl sqM ?_; (with_reducible refine (zE.calls k a0_0 a0_1 a0_2 _ _ l0_3 t410 t411 t412 t413 _ ?side1 ?side2 A7.out).mono ?_); (case side1 => exact sqC (Kd.z1 HR0_3.out HB.out)); (case side2 => exact HC0_3.out); rintro e w16 ⟨v414, rfl, ho0, hb⟩; refine ⟨_, rfl, ?_⟩; have n0_ := Aside0.mk (Kd.qo ho0 (zJ sqB)); have n1_ := Aside0.mk (ze (g := gb408) (o := .cells #[.int .i64 a0_0, .int .i64 a0_1, .int .i64 a0_2, .slice A0_3 l0_3.length c0_3] 24 (0, 0)) (sqK BK408.out) hb); have n2_ := Aside0.mk (zg sqB hb); clear BK408; clear HB; have HO415 := n0_; have BK408 := n1_; have HB := n2_; clear n0_ n1_ n2_; (try clear hb); (try clear hb2); (try clear hk); (try clear hi); (try clear ho0); obtain ⟨Ao17, co17, eo17⟩ := Kd.zU HO415.out; subst eo17) | ((with_reducible refine zp (f := 34) rfl ?_); refine zP (some 22) rfl rfl Try.func34 (by kernel_rfl) rfl #[.agg #[.int .i64 t410, .int .i64 t411, .int .i64 t412, .slice Ao17 t413.length co17]] rfl sqM ?_; (with_reducible refine (zr.calls k t410 t411 t412 _ _ t413 t416 t417 t418 t419 t422 _ ?side1 ?side2 A8.out).mono ?_); (case side1 => exact sqC (Kd.zu HO415.out).2.2); (case side2 => exact (Kd.zu HO415.out).2.1); rintro e w18 ⟨v420, rfl, ho0, hb⟩; refine ⟨_, rfl, ?_⟩; have n0_ := Aside0.mk (Kd.qg (sqR HO415.out) (Kd.qC ho0) hb); have n1_ := Aside0.mk (Kd.qo (Kd.qG ho0 (Kd.jg (sqR HO415.out))) (zJ sqB)); have n2_ := Aside0.mk (ze (g := gb408) (o := .cells #[.int .i64 a0_0, .int .i64 a0_1, .int .i64 a0_2, .slice A0_3 l0_3.length c0_3] 24 (0, 0)) (sqK BK408.out) hb); have n3_ := Aside0.mk (zg sqB hb); clear HO415; clear BK408; clear HB; have HO415 := n0_; have HO421 := n1_; have BK408 := n2_; have HB := n3_; clear n0_ n1_ n2_ n3_; (try clear hb); (try clear hb2); (try clear hk); (try clear hi); (try clear ho0)) | ((with_reducible refine zC (N := 4) rfl ?_); refine zD ?hg (N := 4) ?hd (cs := #[.int .i64 0, .int .i64 0, .int .i64 0, .slice none 0 0]) (t := 27) ?hr ?_; (case hd => rfl); (case hg => rfl); (case hr => exact sqG); intro gb423 hg w19 hbox hb; have n0_ := Aside0.mk (Kd.zG (sqR HO415.out) hb); have n1_ := Aside0.mk (Kd.zG (sqR HO421.out) hb); have n2_ := Aside0.mk (ze (g := gb408) (o := .cells #[.int .i64 a0_0, .int .i64 a0_1, .int .i64 a0_2, .slice A0_3 l0_3.length c0_3] 24 (0, 0)) (sqK BK408.out) hb); have n3_ := Aside0.mk (zg sqB hb); have n4_ := Aside0.mk (hbox); have n5_ := Aside0.mk ((sqS hg : w.heap.size ≤ gb423)); have n6_ := Aside0.mk ((sqS hg : w.heap.size ≤ gb423)); have n7_ := Aside0.mk ((by rw [hg]; exact Nat.ne_of_lt (zI (g := gb408) (o := .cells #[.int .i64 a0_0, .int .i64 a0_1, .int .i64 a0_2, .slice A0_3 l0_3.length c0_3] 24 (0, 0)) (sqK BK408.out)) : gb408 ≠ gb423)); have n8_ := Aside0.mk ((by rw [hg]; exact Nat.ne_of_gt (zI (g := gb408) (o := .cells #[.int .i64 a0_0, .int .i64 a0_1, .int .i64 a0_2, .slice A0_3 l0_3.length c0_3] 24 (0, 0)) (sqK BK408.out)) : gb423 ≠ gb408)); clear HO415; clear HO421; clear BK408; clear HB; have HO415 := n0_; have HO421 := n1_; have BK408 := n2_; have HB := n3_; have BK423 := n4_; have GW423 := n5_; have GE423 := n6_; have NB408_423 := n7_; have NB423_408 := n8_; clear n0_ n1_ n2_ n3_ n4_ n5_ n6_ n7_ n8_; clear hb hbox hg; have hnb20 := NB423_408.out; have hnc20 := NB408_423.out; have hcz21_0 : w19.cell? ⟨gb423, 0, none⟩ = some (.int .i64 0) := (zb BK423.out 0).trans rfl; have hcz21_1 : w19.cell? ⟨gb423, 1, none⟩ = some (.int .i64 0) := (zb BK423.out 1).trans rfl; have hcz21_2 : w19.cell? ⟨gb423, 2, none⟩ = some (.int .i64 0) := (zb BK423.out 2).trans rfl; have hcz21_3 : w19.cell? ⟨gb423, 3, none⟩ = some (.slice none 0 0) := (zb BK423.out 3).trans rfl; have hfz21_0 := za BK423.out 0; have hfz21_1 := za BK423.out 1; have hfz21_2 := za BK423.out 2; have hfz21_3 := za BK423.out 3; obtain ⟨Ao22, co22, eo22⟩ := Kd.zU HO421.out; subst eo22; have hcz23_0 : w19.cell? ⟨gb408, 0, none⟩ = some (.int .i64 a0_0) := (zb BK408.out 0).trans rfl; have hcz23_1 : w19.cell? ⟨gb408, 1, none⟩ = some (.int .i64 a0_1) := (zb BK408.out 1).trans rfl; have hcz23_2 : w19.cell? ⟨gb408, 2, none⟩ = some (.int .i64 a0_2) := (zb BK408.out 2).trans rfl; have hcz23_3 : w19.cell? ⟨gb408, 3, none⟩ = some (.slice A0_3 l0_3.length c0_3) := (zb BK408.out 3).trans rfl; have hfz23_0 := za BK408.out 0; have hfz23_1 := za BK408.out 1; have hfz23_2 := za BK408.out 2; have hfz23_3 := za BK408.out 3) | ((with_reducible refine zp (f := 13) rfl ?_); refine zP (some 26) rfl rfl Try.func13 (by kernel_rfl) rfl #[.agg #[.int .i64 a0_0, .int .i64 a0_1, .int .i64 a0_2, .slice A0_3 l0_3.length c0_3]] rfl sqM ?_; (with_reducible refine (zE.calls k a0_0 a0_1 a0_2 _ _ l0_3 t424 t425 t426 t427 _ ?side1 ?side2 A9.out).mono ?_); (case side1 => exact Kd.z1 HR0_3.out sqB); (case side2 => exact HC0_3.out); rintro e w24 ⟨v428, rfl, ho0, hb⟩; refine ⟨_, rfl, ?_⟩; have n0_ := Aside0.mk (Kd.qg (by refine sqR ?_; exact (Kd.zo (Kd.zj (p := ⟨gb423, 3, none⟩) (Kd.zj (p := ⟨gb423, 2, none⟩) (Kd.zj (p := ⟨gb423, 1, none⟩) (Kd.zj (p := ⟨gb423, 0, none⟩) (Kd.zF HO415.out BK423.out (by decide)) (fun _ hk => hk.2) (.int .i64 t416)) (fun _ hk => hk.2) (.int .i64 t417)) (fun _ hk => hk.2) (.int .i64 t418)) (fun _ hk => hk.2) (.slice Ao22 t419.length co22)) (fun _ h_ => h_.1))) (Kd.qC ho0) hb); have n1_ := Aside0.mk (Kd.qg (by refine sqR ?_; exact (Kd.zo (Kd.zj (p := ⟨gb423, 3, none⟩) (Kd.zj (p := ⟨gb423, 2, none⟩) (Kd.zj (p := ⟨gb423, 1, none⟩) (Kd.zj (p := ⟨gb423, 0, none⟩) (Kd.zF HO421.out BK423.out (by decide)) (fun _ hk => hk.2) (.int .i64 t416)) (fun _ hk => hk.2) (.int .i64 t417)) (fun _ hk => hk.2) (.int .i64 t418)) (fun _ hk => hk.2) (.slice Ao22 t419.length co22)) (fun _ h_ => h_.1))) (Kd.qC ho0) hb); have n2_ := Aside0.mk (Kd.qo (Kd.qG (Kd.qG ho0 (Kd.jg (by refine sqR ?_; exact (Kd.zo (Kd.zj (p := ⟨gb423, 3, none⟩) (Kd.zj (p := ⟨gb423, 2, none⟩) (Kd.zj (p := ⟨gb423, 1, none⟩) (Kd.zj (p := ⟨gb423, 0, none⟩) (Kd.zF HO415.out BK423.out (by decide)) (fun _ hk => hk.2) (.int .i64 t416)) (fun _ hk => hk.2) (.int .i64 t417)) (fun _ hk => hk.2) (.int .i64 t418)) (fun _ hk => hk.2) (.slice Ao22 t419.length co22)) (fun _ h_ => h_.1))))) (Kd.jg (by refine sqR ?_; exact (Kd.zo (Kd.zj (p := ⟨gb423, 3, none⟩) (Kd.zj (p := ⟨gb423, 2, none⟩) (Kd.zj (p := ⟨gb423, 1, none⟩) (Kd.zj (p := ⟨gb423, 0, none⟩) (Kd.zF HO421.out BK423.out (by decide)) (fun _ hk => hk.2) (.int .i64 t416)) (fun _ hk => hk.2) (.int .i64 t417)) (fun _ hk => hk.2) (.int .i64 t418)) (fun _ hk => hk.2) (.slice Ao22 t419.length co22)) (fun _ h_ => h_.1))))) (zJ sqB)); have n3_ := Aside0.mk (ze (g := gb408) (o := .cells #[.int .i64 a0_0, .int .i64 a0_1, .int .i64 a0_2, .slice A0_3 l0_3.length c0_3] 24 (0, 0)) (by refine sqK ?_; refine zi ?_ NB408_423.out _; refine sqK ?_; refine zi ?_ NB408_423.out _; refine sqK ?_; refine zi ?_ NB408_423.out _; refine sqK ?_; refine zi ?_ NB408_423.out _; refine sqK ?_; exact BK408.out) hb); have n4_ := Aside0.mk (ze (g := gb423) (o := .cells #[.int .i64 t416, .int .i64 t417, .int .i64 t418, .slice Ao22 t419.length co22] 27 (0, 0)) (by refine sqK ?_; refine zy (cs := #[.int .i64 t416, .int .i64 t417, .int .i64 t418, .slice none 0 0]) ?_ 3 _ rfl; refine sqK ?_; refine zy (cs := #[.int .i64 t416, .int .i64 t417, .int .i64 0, .slice none 0 0]) ?_ 2 _ rfl; refine sqK ?_; refine zy (cs := #[.int .i64 t416, .int .i64 0, .int .i64 0, .slice none 0 0]) ?_ 1 _ rfl; refine sqK ?_; refine zy (cs := #[.int .i64 0, .int .i64 0, .int .i64 0, .slice none 0 0]) ?_ 0 _ rfl; refine sqK ?_; exact BK423.out) hb); have n5_ := Aside0.mk (zg sqB hb); clear HO415; clear HO421; clear BK408; clear BK423; clear HB; have HO415 := n0_; have HO421 := n1_; have HO429 := n2_; have BK408 := n3_; have BK423 := n4_; have HB := n5_; clear n0_ n1_ n2_ n3_ n4_ n5_; (try clear hb); (try clear hb2); (try clear hk); (try clear hi); (try clear ho0)) | ((with_reducible refine zC (N := 6) rfl ?_); refine zD ?hg (N := 6) ?hd (cs := #[.int .i64 0, .int .i64 0, .int .i64 0, .slice none 0 0]) (t := 27) ?hr ?_; (case hd => rfl); (case hg => rfl); (case hr => exact sqG); intro gb430 hg w25 hbox hb; have n0_ := Aside0.mk (Kd.zG (sqR HO415.out) hb); have n1_ := Aside0.mk (Kd.zG (sqR HO421.out) hb); have n2_ := Aside0.mk (Kd.zG (sqR HO429.out) hb); have n3_ := Aside0.mk (ze (g := gb408) (o := .cells #[.int .i64 a0_0, .int .i64 a0_1, .int .i64 a0_2, .slice A0_3 l0_3.length c0_3] 24 (0, 0)) (sqK BK408.out) hb); have n4_ := Aside0.mk (ze (g := gb423) (o := .cells #[.int .i64 t416, .int .i64 t417, .int .i64 t418, .slice Ao22 t419.length co22] 27 (0, 0)) (sqK BK423.out) hb); have n5_ := Aside0.mk (zg sqB hb); have n6_ := Aside0.mk (hbox); have n7_ := Aside0.mk ((sqS hg : w.heap.size ≤ gb430)); have n8_ := Aside0.mk ((sqS hg : w.heap.size ≤ gb430)); have n9_ := Aside0.mk ((by rw [hg]; exact Nat.ne_of_lt (zI (g := gb408) (o := .cells #[.int .i64 a0_0, .int .i64 a0_1, .int .i64 a0_2, .slice A0_3 l0_3.length c0_3] 24 (0, 0)) (sqK BK408.out)) : gb408 ≠ gb430)); have n10_ := Aside0.mk ((by rw [hg]; exact Nat.ne_of_gt (zI (g := gb408) (o := .cells #[.int .i64 a0_0, .int .i64 a0_1, .int .i64 a0_2, .slice A0_3 l0_3.length c0_3] 24 (0, 0)) (sqK BK408.out)) : gb430 ≠ gb408)); have n11_ := Aside0.mk ((by rw [hg]; exact Nat.ne_of_lt (zI (g := gb423) (o := .cells #[.int .i64 t416, .int .i64 t417, .int .i64 t418, .slice Ao22 t419.length co22] 27 (0, 0)) (sqK BK423.out)) : gb423 ≠ gb430)); have n12_ := Aside0.mk ((by rw [hg]; exact Nat.ne_of_gt (zI (g := gb423) (o := .cells #[.int .i64 t416, .int .i64 t417, .int .i64 t418, .slice Ao22 t419.length co22] 27 (0, 0)) (sqK BK423.out)) : gb430 ≠ gb423)); clear HO415; clear HO421; clear HO429; clear BK408; clear BK423; clear HB; have HO415 := n0_; have HO421 := n1_; have HO429 := n2_; have BK408 := n3_; have BK423 := n4_; have HB := n5_; have BK430 := n6_; have GW430 := n7_; have GE430 := n8_; have NB408_430 := n9_; have NB430_408 := n10_; have NB423_430 := n11_; have NB430_423 := n12_; clear n0_ n1_ n2_ n3_ n4_ n5_ n6_ n7_ n8_ n9_ n10_ n11_ n12_; clear hb hbox hg; have hnb26 := NB430_408.out; have hnc26 := NB408_430.out; have hnb27 := NB430_423.out; have hnc27 := NB423_430.out; have hcz28_0 : w25.cell? ⟨gb430, 0, none⟩ = some (.int .i64 0) := (zb BK430.out 0).trans rfl; have hcz28_1 : w25.cell? ⟨gb430, 1, none⟩ = some (.int .i64 0) := (zb BK430.out 1).trans rfl; have hcz28_2 : w25.cell? ⟨gb430, 2, none⟩ = some (.int .i64 0) := (zb BK430.out 2).trans rfl; have hcz28_3 : w25.cell? ⟨gb430, 3, none⟩ = some (.slice none 0 0) := (zb BK430.out 3).trans rfl; have hfz28_0 := za BK430.out 0; have hfz28_1 := za BK430.out 1; have hfz28_2 := za BK430.out 2; have hfz28_3 := za BK430.out 3; obtain ⟨Ao29, co29, eo29⟩ := Kd.zU HO429.out; subst eo29) | ((with_reducible refine zp (f := 35) rfl ?_); refine zP (some 29) rfl rfl Try.func35 (by kernel_rfl) rfl #[.agg #[.int .i64 t424, .int .i64 t425, .int .i64 t426, .slice Ao29 t427.length co29]] rfl sqM ?_; (with_reducible refine (zm.calls k t424 t425 t426 _ _ t427 t431 t432 t433 t434 t437 _ ?side1 ?side2 A10.out).mono ?_); (case side1 => refine (Kd.zu (e := 3) (base := w.heap.size) (ok := fun k_ => ((True ∧ some k_ ≠ (.slice Ao17 t413.length co17 : Value).ownBlock) ∧ some k_ ≠ (.slice Ao22 t419.length co22 : Value).ownBlock)) (n := t427.length) (c := co29) ?_).2.2; exact (by refine sqR ?_; exact (Kd.zo (Kd.zj (p := ⟨gb430, 3, none⟩) (Kd.zj (p := ⟨gb430, 2, none⟩) (Kd.zj (p := ⟨gb430, 1, none⟩) (Kd.zj (p := ⟨gb430, 0, none⟩) (Kd.zF HO429.out BK430.out (by decide)) (fun _ hk => hk.2) (.int .i64 t424)) (fun _ hk => hk.2) (.int .i64 t425)) (fun _ hk => hk.2) (.int .i64 t426)) (fun _ hk => hk.2) (.slice Ao29 t427.length co29)) (fun _ h_ => h_.1)))); (case side2 => exact (Kd.zu HO429.out).2.1); rintro e w30 ⟨v435, rfl, ho0, hb⟩; refine ⟨_, rfl, ?_⟩; have n0_ := Aside0.mk (Kd.qg (by refine sqR ?_; exact (Kd.zo (Kd.zj (p := ⟨gb430, 3, none⟩) (Kd.zj (p := ⟨gb430, 2, none⟩) (Kd.zj (p := ⟨gb430, 1, none⟩) (Kd.zj (p := ⟨gb430, 0, none⟩) (Kd.zF HO415.out BK430.out (by decide)) (fun _ hk => hk.2) (.int .i64 t424)) (fun _ hk => hk.2) (.int .i64 t425)) (fun _ hk => hk.2) (.int .i64 t426)) (fun _ hk => hk.2) (.slice Ao29 t427.length co29)) (fun _ h_ => h_.1))) (Kd.qC ho0) hb); have n1_ := Aside0.mk (Kd.qg (by refine sqR ?_; exact (Kd.zo (Kd.zj (p := ⟨gb430, 3, none⟩) (Kd.zj (p := ⟨gb430, 2, none⟩) (Kd.zj (p := ⟨gb430, 1, none⟩) (Kd.zj (p := ⟨gb430, 0, none⟩) (Kd.zF HO421.out BK430.out (by decide)) (fun _ hk => hk.2) (.int .i64 t424)) (fun _ hk => hk.2) (.int .i64 t425)) (fun _ hk => hk.2) (.int .i64 t426)) (fun _ hk => hk.2) (.slice Ao29 t427.length co29)) (fun _ h_ => h_.1))) (Kd.qC ho0) hb); have n2_ := Aside0.mk (Kd.qg (by refine sqR ?_; exact (Kd.zo (Kd.zj (p := ⟨gb430, 3, none⟩) (Kd.zj (p := ⟨gb430, 2, none⟩) (Kd.zj (p := ⟨gb430, 1, none⟩) (Kd.zj (p := ⟨gb430, 0, none⟩) (Kd.zF HO429.out BK430.out (by decide)) (fun _ hk => hk.2) (.int .i64 t424)) (fun _ hk => hk.2) (.int .i64 t425)) (fun _ hk => hk.2) (.int .i64 t426)) (fun _ hk => hk.2) (.slice Ao29 t427.length co29)) (fun _ h_ => h_.1))) (Kd.qC ho0) hb); have n3_ := Aside0.mk (Kd.qo (Kd.qG (Kd.qG (Kd.qG ho0 (Kd.jg (by refine sqR ?_; exact (Kd.zo (Kd.zj (p := ⟨gb430, 3, none⟩) (Kd.zj (p := ⟨gb430, 2, none⟩) (Kd.zj (p := ⟨gb430, 1, none⟩) (Kd.zj (p := ⟨gb430, 0, none⟩) (Kd.zF HO415.out BK430.out (by decide)) (fun _ hk => hk.2) (.int .i64 t424)) (fun _ hk => hk.2) (.int .i64 t425)) (fun _ hk => hk.2) (.int .i64 t426)) (fun _ hk => hk.2) (.slice Ao29 t427.length co29)) (fun _ h_ => h_.1))))) (Kd.jg (by refine sqR ?_; exact (Kd.zo (Kd.zj (p := ⟨gb430, 3, none⟩) (Kd.zj (p := ⟨gb430, 2, none⟩) (Kd.zj (p := ⟨gb430, 1, none⟩) (Kd.zj (p := ⟨gb430, 0, none⟩) (Kd.zF HO421.out BK430.out (by decide)) (fun _ hk => hk.2) (.int .i64 t424)) (fun _ hk => hk.2) (.int .i64 t425)) (fun _ hk => hk.2) (.int .i64 t426)) (fun _ hk => hk.2) (.slice Ao29 t427.length co29)) (fun _ h_ => h_.1))))) (Kd.jg (by refine sqR ?_; exact (Kd.zo (Kd.zj (p := ⟨gb430, 3, none⟩) (Kd.zj (p := ⟨gb430, 2, none⟩) (Kd.zj (p := ⟨gb430, 1, none⟩) (Kd.zj (p := ⟨gb430, 0, none⟩) (Kd.zF HO429.out BK430.out (by decide)) (fun _ hk => hk.2) (.int .i64 t424)) (fun _ hk => hk.2) (.int .i64 t425)) (fun _ hk => hk.2) (.int .i64 t426)) (fun _ hk => hk.2) (.slice Ao29 t427.length co29)) (fun _ h_ => h_.1))))) (zJ sqB)); have n4_ := Aside0.mk (ze (g := gb408) (o := .cells #[.int .i64 a0_0, .int .i64 a0_1, .int .i64 a0_2, .slice A0_3 l0_3.length c0_3] 24 (0, 0)) (by refine sqK ?_; refine zi ?_ NB408_430.out _; refine sqK ?_; refine zi ?_ NB408_430.out _; refine sqK ?_; refine zi ?_ NB408_430.out _; refine sqK ?_; refine zi ?_ NB408_430.out _; refine sqK ?_; exact BK408.out) hb); have n5_ := Aside0.mk (ze (g := gb423) (o := .cells #[.int .i64 t416, .int .i64 t417, .int .i64 t418, .slice Ao22 t419.length co22] 27 (0, 0)) (by refine sqK ?_; refine zi ?_ NB423_430.out _; refine sqK ?_; refine zi ?_ NB423_430.out _; refine sqK ?_; refine zi ?_ NB423_430.out _; refine sqK ?_; refine zi ?_ NB423_430.out _; refine sqK ?_; exact BK423.out) hb); have n6_ := Aside0.mk (ze (g := gb430) (o := .cells #[.int .i64 t424, .int .i64 t425, .int .i64 t426, .slice Ao29 t427.length co29] 27 (0, 0)) (by refine sqK ?_; refine zy (cs := #[.int .i64 t424, .int .i64 t425, .int .i64 t426, .slice none 0 0]) ?_ 3 _ rfl; refine sqK ?_; refine zy (cs := #[.int .i64 t424, .int .i64 t425, .int .i64 0, .slice none 0 0]) ?_ 2 _ rfl; refine sqK ?_; refine zy (cs := #[.int .i64 t424, .int .i64 0, .int .i64 0, .slice none 0 0]) ?_ 1 _ rfl; refine sqK ?_; refine zy (cs := #[.int .i64 0, .int .i64 0, .int .i64 0, .slice none 0 0]) ?_ 0 _ rfl; refine sqK ?_; exact BK430.out) hb); have n7_ := Aside0.mk (zg sqB hb); clear HO415; clear HO421; clear HO429; clear BK408; clear BK423; clear BK430; clear HB; have HO415 := n0_; have HO421 := n1_; have HO429 := n2_; have HO436 := n3_; have BK408 := n4_; have BK423 := n5_; have BK430 := n6_; have HB := n7_; clear n0_ n1_ n2_ n3_ n4_ n5_ n6_ n7_; (try clear hb); (try clear hb2); (try clear hk); (try clear hi); (try clear ho0)) | ((with_reducible refine zC (N := 7) rfl ?_); refine zD ?hg (N := 7) ?hd (cs := #[.int .i64 0, .int .i64 0, .int .i64 0, .slice none 0 0]) (t := 27) ?hr ?_; (case hd => rfl); (case hg => rfl); (case hr => exact sqG); intro gb438 hg w31 hbox hb; have n0_ := Aside0.mk (Kd.zG (sqR HO415.out) hb); have n1_ := Aside0.mk (Kd.zG (sqR HO421.out) hb); have n2_ := Aside0.mk (Kd.zG (sqR HO429.out) hb); have n3_ := Aside0.mk (Kd.zG (sqR HO436.out) hb); have n4_ := Aside0.mk (ze (g := gb408) (o := .cells #[.int .i64 a0_0, .int .i64 a0_1, .int .i64 a0_2, .slice A0_3 l0_3.length c0_3] 24 (0, 0)) (sqK BK408.out) hb); have n5_ := Aside0.mk (ze (g := gb423) (o := .cells #[.int .i64 t416, .int .i64 t417, .int .i64 t418, .slice Ao22 t419.length co22] 27 (0, 0)) (sqK BK423.out) hb); have n6_ := Aside0.mk (ze (g := gb430) (o := .cells #[.int .i64 t424, .int .i64 t425, .int .i64 t426, .slice Ao29 t427.length co29] 27 (0, 0)) (sqK BK430.out) hb); have n7_ := Aside0.mk (zg sqB hb); have n8_ := Aside0.mk (hbox); have n9_ := Aside0.mk ((sqS hg : w.heap.size ≤ gb438)); have n10_ := Aside0.mk ((sqS hg : w.heap.size ≤ gb438)); have n11_ := Aside0.mk ((by rw [hg]; exact Nat.ne_of_lt (zI (g := gb408) (o := .cells #[.int .i64 a0_0, .int .i64 a0_1, .int .i64 a0_2, .slice A0_3 l0_3.length c0_3] 24 (0, 0)) (sqK BK408.out)) : gb408 ≠ gb438)); have n12_ := Aside0.mk ((by rw [hg]; exact Nat.ne_of_gt (zI (g := gb408) (o := .cells #[.int .i64 a0_0, .int .i64 a0_1, .int .i64 a0_2, .slice A0_3 l0_3.length c0_3] 24 (0, 0)) (sqK BK408.out)) : gb438 ≠ gb408)); have n13_ := Aside0.mk ((by rw [hg]; exact Nat.ne_of_lt (zI (g := gb423) (o := .cells #[.int .i64 t416, .int .i64 t417, .int .i64 t418, .slice Ao22 t419.length co22] 27 (0, 0)) (sqK BK423.out)) : gb423 ≠ gb438)); have n14_ := Aside0.mk ((by rw [hg]; exact Nat.ne_of_gt (zI (g := gb423) (o := .cells #[.int .i64 t416, .int .i64 t417, .int .i64 t418, .slice Ao22 t419.length co22] 27 (0, 0)) (sqK BK423.out)) : gb438 ≠ gb423)); have n15_ := Aside0.mk ((by rw [hg]; exact Nat.ne_of_lt (zI (g := gb430) (o := .cells #[.int .i64 t424, .int .i64 t425, .int .i64 t426, .slice Ao29 t427.length co29] 27 (0, 0)) (sqK BK430.out)) : gb430 ≠ gb438)); have n16_ := Aside0.mk ((by rw [hg]; exact Nat.ne_of_gt (zI (g := gb430) (o := .cells #[.int .i64 t424, .int .i64 t425, .int .i64 t426, .slice Ao29 t427.length co29] 27 (0, 0)) (sqK BK430.out)) : gb438 ≠ gb430)); clear HO415; clear HO421; clear HO429; clear HO436; clear BK408; clear BK423; clear BK430; clear HB; have HO415 := n0_; have HO421 := n1_; have HO429 := n2_; have HO436 := n3_; have BK408 := n4_; have BK423 := n5_; have BK430 := n6_; have HB := n7_; have BK438 := n8_; have GW438 := n9_; have GE438 := n10_; have NB408_438 := n11_; have NB438_408 := n12_; have NB423_438 := n13_; have NB438_423 := n14_; have NB430_438 := n15_; have NB438_430 := n16_; clear n0_ n1_ n2_ n3_ n4_ n5_ n6_ n7_ n8_ n9_ n10_ n11_ n12_ n13_ n14_ n15_ n16_; clear hb hbox hg; have hnb32 := NB438_408.out; have hnc32 := NB408_438.out; have hnb33 := NB438_423.out; have hnc33 := NB423_438.out; have hnb34 := NB438_430.out; have hnc34 := NB430_438.out; have hcz35_0 : w31.cell? ⟨gb438, 0, none⟩ = some (.int .i64 0) := (zb BK438.out 0).trans rfl; have hcz35_1 : w31.cell? ⟨gb438, 1, none⟩ = some (.int .i64 0) := (zb BK438.out 1).trans rfl; have hcz35_2 : w31.cell? ⟨gb438, 2, none⟩ = some (.int .i64 0) := (zb BK438.out 2).trans rfl; have hcz35_3 : w31.cell? ⟨gb438, 3, none⟩ = some (.slice none 0 0) := (zb BK438.out 3).trans rfl; have hfz35_0 := za BK438.out 0; have hfz35_1 := za BK438.out 1; have hfz35_2 := za BK438.out 2; have hfz35_3 := za BK438.out 3; obtain ⟨Ao36, co36, eo36⟩ := Kd.zU HO436.out; subst eo36))
  (try simp only [Act.put, List.setIfInBounds_toArray, List.set_cons_zero, List.set_cons_succ])
  go_cut [40] (fun v40 wc => ∃ (kq : Nat) (x40_10 : Bool), v40 = .bool x40_10 ∧ Aside0 (zc.j0 kq t422 t437 x40_10 a0_0 a0_1 a0_2 l0_3 t416 t417 t418 t419 t424 t425 t426 t427 t431 t432 t433 t434 = some r) ∧ Aside0 (kq ≤ k) ∧ Aside0 (Kd.R (Kd.int .i64) 3 wc w.heap.size (fun k_ => some k_ ≠ ((.slice Ao29 t427.length co29) : Value).ownBlock ∧ some k_ ≠ ((.slice Ao36 t434.length co36) : Value).ownBlock) (.slice Ao22 t419.length co22) t419) ∧ Aside0 (Kd.R (Kd.int .i64) 3 wc w.heap.size (fun k_ => some k_ ≠ ((.slice Ao22 t419.length co22) : Value).ownBlock ∧ some k_ ≠ ((.slice Ao36 t434.length co36) : Value).ownBlock) (.slice Ao29 t427.length co29) t427) ∧ Aside0 (Kd.R (Kd.int .i64) 3 wc w.heap.size (fun k_ => some k_ ≠ ((.slice Ao22 t419.length co22) : Value).ownBlock ∧ some k_ ≠ ((.slice Ao29 t427.length co29) : Value).ownBlock) (.slice Ao36 t434.length co36) t434) ∧ Aside0 (wc.heap[gb408]? = some (.cells #[.int .i64 a0_0, .int .i64 a0_1, .int .i64 a0_2, (.slice A0_3 l0_3.length c0_3)] 24 (0, 0))) ∧ Aside0 (wc.heap[gb423]? = some (.cells #[.int .i64 t416, .int .i64 t417, .int .i64 t418, (.slice Ao22 t419.length co22)] 27 (0, 0))) ∧ Aside0 (wc.heap[gb430]? = some (.cells #[.int .i64 t424, .int .i64 t425, .int .i64 t426, (.slice Ao29 t427.length co29)] 27 (0, 0))) ∧ Aside0 (wc.heap[gb438]? = some (.cells #[.int .i64 t431, .int .i64 t432, .int .i64 t433, (.slice Ao36 t434.length co36)] 27 (0, 0))) ∧ Aside0 (Below w.heap.size w wc))
  case first =>
   have H := HC11.out
   clear HC11
   replace H := Option.bind_eq_some_iff.mp H
   obtain ⟨t439, A370, H⟩ := H
   replace H : (if t439 = true then (zc.j0 k t422 t437 (t437 != t422) a0_0 a0_1 a0_2 l0_3 t416 t417 t418 t419 t424 t425 t426 t427 t431 t432 t433 t434) else (zc.j0 k t422 t437 true a0_0 a0_1 a0_2 l0_3 t416 t417 t418 t419 t424 t425 t426 t427 t431 t432 t433 t434)) = some r := H
   have A37 := Aside0.mk A370
   clear A370
   by_cases c38 : t439 = true
   ·subst c38
    have H1 : (zc.j0 k t422 t437 (t437 != t422) a0_0 a0_1 a0_2 l0_3 t416 t417 t418 t419 t424 t425 t426 t427 t431 t432 t433 t434) = some r := by rw [if_pos rfl] at H; exact H
    clear H
    have H := H1
    clear H1
    have H' := Aside0.mk H
    clear H
    have hnb39 := NB438_408.out
    have hnc39 := NB408_438.out
    have hnb40 := NB438_423.out
    have hnc40 := NB423_438.out
    have hnb41 := NB438_430.out
    have hnc41 := NB430_438.out
    have hcz42_0 : w31.cell? ⟨gb438, 0, none⟩ = some (.int .i64 0) := (zb BK438.out 0).trans rfl
    have hcz42_1 : w31.cell? ⟨gb438, 1, none⟩ = some (.int .i64 0) := (zb BK438.out 1).trans rfl
    have hcz42_2 : w31.cell? ⟨gb438, 2, none⟩ = some (.int .i64 0) := (zb BK438.out 2).trans rfl
    have hcz42_3 : w31.cell? ⟨gb438, 3, none⟩ = some (.slice none 0 0) := (zb BK438.out 3).trans rfl
    have hfz42_0 := za BK438.out 0; have hfz42_1 := za BK438.out 1; have hfz42_2 := za BK438.out 2; have hfz42_3 := za BK438.out 3
    have hnb43 := NB423_408.out
    have hnc43 := NB408_423.out
    have hnb44 := NB423_430.out
    have hnc44 := NB430_423.out
    have hcz45_0 : w31.cell? ⟨gb423, 0, none⟩ = some (.int .i64 t416) := (zb BK423.out 0).trans rfl
    have hcz45_1 : w31.cell? ⟨gb423, 1, none⟩ = some (.int .i64 t417) := (zb BK423.out 1).trans rfl
    have hcz45_2 : w31.cell? ⟨gb423, 2, none⟩ = some (.int .i64 t418) := (zb BK423.out 2).trans rfl
    have hcz45_3 : w31.cell? ⟨gb423, 3, none⟩ = some (.slice Ao22 t419.length co22) := (zb BK423.out 3).trans rfl
    have hfz45_0 := za BK423.out 0; have hfz45_1 := za BK423.out 1; have hfz45_2 := za BK423.out 2; have hfz45_3 := za BK423.out 3
    go_wp2_with (first | ((with_reducible refine zp (f := 15) rfl ?_); refine zP (some 34) rfl rfl Try.func15 (by kernel_rfl) rfl #[.agg #[.int .i64 t431, .int .i64 t432, .int .i64 t433, .slice Ao36 t434.length co36], .agg #[.int .i64 t416, .int .i64 t417, .int .i64 t418, .slice Ao22 t419.length co22]] rfl sqM ?_; (with_reducible refine (zB.calls k t431 t432 t433 _ _ t434 t416 t417 t418 _ _ t419 true _ ?side1 ?side2 ?side3 ?side4 A37.out).mono ?_); (case side1 => refine (Kd.zu (e := 3) (base := w.heap.size) (ok := fun k_ => (((True ∧ some k_ ≠ (.slice Ao17 t413.length co17 : Value).ownBlock) ∧ some k_ ≠ (.slice Ao22 t419.length co22 : Value).ownBlock) ∧ some k_ ≠ (.slice Ao29 t427.length co29 : Value).ownBlock)) (n := t434.length) (c := co36) ?_).2.2; exact (by refine sqR ?_; exact (Kd.zo (Kd.zj (p := ⟨gb438, 3, none⟩) (Kd.zj (p := ⟨gb438, 2, none⟩) (Kd.zj (p := ⟨gb438, 1, none⟩) (Kd.zj (p := ⟨gb438, 0, none⟩) (Kd.zF HO436.out BK438.out (by decide)) (fun _ hk => hk.2) (.int .i64 t431)) (fun _ hk => hk.2) (.int .i64 t432)) (fun _ hk => hk.2) (.int .i64 t433)) (fun _ hk => hk.2) (.slice Ao36 t434.length co36)) (fun _ h_ => h_.1)))); (case side2 => exact (Kd.zu HO436.out).2.1); (case side3 => refine (Kd.zu (e := 3) (base := w.heap.size) (ok := fun k_ => (((True ∧ some k_ ≠ (.slice Ao17 t413.length co17 : Value).ownBlock) ∧ some k_ ≠ (.slice Ao29 t427.length co29 : Value).ownBlock) ∧ some k_ ≠ (.slice Ao36 t434.length co36 : Value).ownBlock)) (n := t419.length) (c := co22) ?_).2.2; exact (by refine sqR ?_; exact (Kd.zo (Kd.zj (p := ⟨gb438, 3, none⟩) (Kd.zj (p := ⟨gb438, 2, none⟩) (Kd.zj (p := ⟨gb438, 1, none⟩) (Kd.zj (p := ⟨gb438, 0, none⟩) (Kd.zF HO421.out BK438.out (by decide)) (fun _ hk => hk.2) (.int .i64 t431)) (fun _ hk => hk.2) (.int .i64 t432)) (fun _ hk => hk.2) (.int .i64 t433)) (fun _ hk => hk.2) (.slice Ao36 t434.length co36)) (fun _ h_ => h_.1)))); (case side4 => exact (Kd.zu HO421.out).2.1); rintro e w46 ⟨rfl, hb⟩; refine ⟨_, rfl, ?_⟩; have n0_ := Aside0.mk (Kd.zG (by refine sqR ?_; exact (Kd.zo (Kd.zj (p := ⟨gb438, 3, none⟩) (Kd.zj (p := ⟨gb438, 2, none⟩) (Kd.zj (p := ⟨gb438, 1, none⟩) (Kd.zj (p := ⟨gb438, 0, none⟩) (Kd.zF HO415.out BK438.out (by decide)) (fun _ hk => hk.2) (.int .i64 t431)) (fun _ hk => hk.2) (.int .i64 t432)) (fun _ hk => hk.2) (.int .i64 t433)) (fun _ hk => hk.2) (.slice Ao36 t434.length co36)) (fun _ h_ => h_.1))) hb); have n1_ := Aside0.mk (Kd.zG (by refine sqR ?_; exact (Kd.zo (Kd.zj (p := ⟨gb438, 3, none⟩) (Kd.zj (p := ⟨gb438, 2, none⟩) (Kd.zj (p := ⟨gb438, 1, none⟩) (Kd.zj (p := ⟨gb438, 0, none⟩) (Kd.zF HO421.out BK438.out (by decide)) (fun _ hk => hk.2) (.int .i64 t431)) (fun _ hk => hk.2) (.int .i64 t432)) (fun _ hk => hk.2) (.int .i64 t433)) (fun _ hk => hk.2) (.slice Ao36 t434.length co36)) (fun _ h_ => h_.1))) hb); have n2_ := Aside0.mk (Kd.zG (by refine sqR ?_; exact (Kd.zo (Kd.zj (p := ⟨gb438, 3, none⟩) (Kd.zj (p := ⟨gb438, 2, none⟩) (Kd.zj (p := ⟨gb438, 1, none⟩) (Kd.zj (p := ⟨gb438, 0, none⟩) (Kd.zF HO429.out BK438.out (by decide)) (fun _ hk => hk.2) (.int .i64 t431)) (fun _ hk => hk.2) (.int .i64 t432)) (fun _ hk => hk.2) (.int .i64 t433)) (fun _ hk => hk.2) (.slice Ao36 t434.length co36)) (fun _ h_ => h_.1))) hb); have n3_ := Aside0.mk (Kd.zG (by refine sqR ?_; exact (Kd.zo (Kd.zj (p := ⟨gb438, 3, none⟩) (Kd.zj (p := ⟨gb438, 2, none⟩) (Kd.zj (p := ⟨gb438, 1, none⟩) (Kd.zj (p := ⟨gb438, 0, none⟩) (Kd.zF HO436.out BK438.out (by decide)) (fun _ hk => hk.2) (.int .i64 t431)) (fun _ hk => hk.2) (.int .i64 t432)) (fun _ hk => hk.2) (.int .i64 t433)) (fun _ hk => hk.2) (.slice Ao36 t434.length co36)) (fun _ h_ => h_.1))) hb); have n4_ := Aside0.mk (ze (g := gb408) (o := .cells #[.int .i64 a0_0, .int .i64 a0_1, .int .i64 a0_2, .slice A0_3 l0_3.length c0_3] 24 (0, 0)) (by refine sqK ?_; refine zi ?_ NB408_438.out _; refine sqK ?_; refine zi ?_ NB408_438.out _; refine sqK ?_; refine zi ?_ NB408_438.out _; refine sqK ?_; refine zi ?_ NB408_438.out _; refine sqK ?_; exact BK408.out) hb); have n5_ := Aside0.mk (ze (g := gb423) (o := .cells #[.int .i64 t416, .int .i64 t417, .int .i64 t418, .slice Ao22 t419.length co22] 27 (0, 0)) (by refine sqK ?_; refine zi ?_ NB423_438.out _; refine sqK ?_; refine zi ?_ NB423_438.out _; refine sqK ?_; refine zi ?_ NB423_438.out _; refine sqK ?_; refine zi ?_ NB423_438.out _; refine sqK ?_; exact BK423.out) hb); have n6_ := Aside0.mk (ze (g := gb430) (o := .cells #[.int .i64 t424, .int .i64 t425, .int .i64 t426, .slice Ao29 t427.length co29] 27 (0, 0)) (by refine sqK ?_; refine zi ?_ NB430_438.out _; refine sqK ?_; refine zi ?_ NB430_438.out _; refine sqK ?_; refine zi ?_ NB430_438.out _; refine sqK ?_; refine zi ?_ NB430_438.out _; refine sqK ?_; exact BK430.out) hb); have n7_ := Aside0.mk (ze (g := gb438) (o := .cells #[.int .i64 t431, .int .i64 t432, .int .i64 t433, .slice Ao36 t434.length co36] 27 (0, 0)) (by refine sqK ?_; refine zy (cs := #[.int .i64 t431, .int .i64 t432, .int .i64 t433, .slice none 0 0]) ?_ 3 _ rfl; refine sqK ?_; refine zy (cs := #[.int .i64 t431, .int .i64 t432, .int .i64 0, .slice none 0 0]) ?_ 2 _ rfl; refine sqK ?_; refine zy (cs := #[.int .i64 t431, .int .i64 0, .int .i64 0, .slice none 0 0]) ?_ 1 _ rfl; refine sqK ?_; refine zy (cs := #[.int .i64 0, .int .i64 0, .int .i64 0, .slice none 0 0]) ?_ 0 _ rfl; refine sqK ?_; exact BK438.out) hb); have n8_ := Aside0.mk (zg sqB hb); clear HO415; clear HO421; clear HO429; clear HO436; clear BK408; clear BK423; clear BK430; clear BK438; clear HB; have HO415 := n0_; have HO421 := n1_; have HO429 := n2_; have HO436 := n3_; have BK408 := n4_; have BK423 := n5_; have BK430 := n6_; have BK438 := n7_; have HB := n8_; clear n0_ n1_ n2_ n3_ n4_ n5_ n6_ n7_ n8_; (try clear hb); (try clear hb2); (try clear hk); (try clear hi)))
    go_meet
    case rel => exact ⟨_, ((t437 != t422)), (sqD), H', ⟨by first | omega | exact Nat.le_refl _⟩, ⟨by refine sqR ?_; exact Kd.zo HO421.out (fun _ hk => by first | exact ⟨hk.1.2, hk.2⟩ | (refine ⟨?_, ?_⟩ <;> intro e_ <;> simp only [e_, ne_eq, not_true_eq_false, and_false, false_and] at hk))⟩, ⟨by refine sqR ?_; exact Kd.zo HO429.out (fun _ hk => by first | exact ⟨hk.1.2, hk.2⟩ | (refine ⟨?_, ?_⟩ <;> intro e_ <;> simp only [e_, ne_eq, not_true_eq_false, and_false, false_and] at hk))⟩, ⟨by refine sqR ?_; exact Kd.zo HO436.out (fun _ hk => by first | exact ⟨hk.1.2, hk.2⟩ | (refine ⟨?_, ?_⟩ <;> intro e_ <;> simp only [e_, ne_eq, not_true_eq_false, and_false, false_and] at hk))⟩, ⟨sqK BK408.out⟩, ⟨sqK BK423.out⟩, ⟨sqK BK430.out⟩, ⟨sqK BK438.out⟩, ⟨sqB⟩⟩
   ·replace c38 := Bool.eq_false_iff.mpr c38
    subst c38
    have H1 : (zc.j0 k t422 t437 true a0_0 a0_1 a0_2 l0_3 t416 t417 t418 t419 t424 t425 t426 t427 t431 t432 t433 t434) = some r := by rw [if_neg (show ¬ (false = true) by decide)] at H; exact H
    clear H
    have H := H1
    clear H1
    have H' := Aside0.mk H
    clear H
    have hnb47 := NB438_408.out
    have hnc47 := NB408_438.out
    have hnb48 := NB438_423.out
    have hnc48 := NB423_438.out
    have hnb49 := NB438_430.out
    have hnc49 := NB430_438.out
    have hcz50_0 : w31.cell? ⟨gb438, 0, none⟩ = some (.int .i64 0) := (zb BK438.out 0).trans rfl
    have hcz50_1 : w31.cell? ⟨gb438, 1, none⟩ = some (.int .i64 0) := (zb BK438.out 1).trans rfl
    have hcz50_2 : w31.cell? ⟨gb438, 2, none⟩ = some (.int .i64 0) := (zb BK438.out 2).trans rfl
    have hcz50_3 : w31.cell? ⟨gb438, 3, none⟩ = some (.slice none 0 0) := (zb BK438.out 3).trans rfl
    have hfz50_0 := za BK438.out 0; have hfz50_1 := za BK438.out 1; have hfz50_2 := za BK438.out 2; have hfz50_3 := za BK438.out 3
    have hnb51 := NB423_408.out
    have hnc51 := NB408_423.out
    have hnb52 := NB423_430.out
    have hnc52 := NB430_423.out
    have hcz53_0 : w31.cell? ⟨gb423, 0, none⟩ = some (.int .i64 t416) := (zb BK423.out 0).trans rfl
    have hcz53_1 : w31.cell? ⟨gb423, 1, none⟩ = some (.int .i64 t417) := (zb BK423.out 1).trans rfl
    have hcz53_2 : w31.cell? ⟨gb423, 2, none⟩ = some (.int .i64 t418) := (zb BK423.out 2).trans rfl
    have hcz53_3 : w31.cell? ⟨gb423, 3, none⟩ = some (.slice Ao22 t419.length co22) := (zb BK423.out 3).trans rfl
    have hfz53_0 := za BK423.out 0; have hfz53_1 := za BK423.out 1; have hfz53_2 := za BK423.out 2; have hfz53_3 := za BK423.out 3
    go_wp2_with (first | ((with_reducible refine zp (f := 15) rfl ?_); refine zP (some 34) rfl rfl Try.func15 (by kernel_rfl) rfl #[.agg #[.int .i64 t431, .int .i64 t432, .int .i64 t433, .slice Ao36 t434.length co36], .agg #[.int .i64 t416, .int .i64 t417, .int .i64 t418, .slice Ao22 t419.length co22]] rfl sqM ?_; (with_reducible refine (zB.calls k t431 t432 t433 _ _ t434 t416 t417 t418 _ _ t419 false _ ?side1 ?side2 ?side3 ?side4 A37.out).mono ?_); (case side1 => refine (Kd.zu (e := 3) (base := w.heap.size) (ok := fun k_ => (((True ∧ some k_ ≠ (.slice Ao17 t413.length co17 : Value).ownBlock) ∧ some k_ ≠ (.slice Ao22 t419.length co22 : Value).ownBlock) ∧ some k_ ≠ (.slice Ao29 t427.length co29 : Value).ownBlock)) (n := t434.length) (c := co36) ?_).2.2; exact (by refine sqR ?_; exact (Kd.zo (Kd.zj (p := ⟨gb438, 3, none⟩) (Kd.zj (p := ⟨gb438, 2, none⟩) (Kd.zj (p := ⟨gb438, 1, none⟩) (Kd.zj (p := ⟨gb438, 0, none⟩) (Kd.zF HO436.out BK438.out (by decide)) (fun _ hk => hk.2) (.int .i64 t431)) (fun _ hk => hk.2) (.int .i64 t432)) (fun _ hk => hk.2) (.int .i64 t433)) (fun _ hk => hk.2) (.slice Ao36 t434.length co36)) (fun _ h_ => h_.1)))); (case side2 => exact (Kd.zu HO436.out).2.1); (case side3 => refine (Kd.zu (e := 3) (base := w.heap.size) (ok := fun k_ => (((True ∧ some k_ ≠ (.slice Ao17 t413.length co17 : Value).ownBlock) ∧ some k_ ≠ (.slice Ao29 t427.length co29 : Value).ownBlock) ∧ some k_ ≠ (.slice Ao36 t434.length co36 : Value).ownBlock)) (n := t419.length) (c := co22) ?_).2.2; exact (by refine sqR ?_; exact (Kd.zo (Kd.zj (p := ⟨gb438, 3, none⟩) (Kd.zj (p := ⟨gb438, 2, none⟩) (Kd.zj (p := ⟨gb438, 1, none⟩) (Kd.zj (p := ⟨gb438, 0, none⟩) (Kd.zF HO421.out BK438.out (by decide)) (fun _ hk => hk.2) (.int .i64 t431)) (fun _ hk => hk.2) (.int .i64 t432)) (fun _ hk => hk.2) (.int .i64 t433)) (fun _ hk => hk.2) (.slice Ao36 t434.length co36)) (fun _ h_ => h_.1)))); (case side4 => exact (Kd.zu HO421.out).2.1); rintro e w54 ⟨rfl, hb⟩; refine ⟨_, rfl, ?_⟩; have n0_ := Aside0.mk (Kd.zG (by refine sqR ?_; exact (Kd.zo (Kd.zj (p := ⟨gb438, 3, none⟩) (Kd.zj (p := ⟨gb438, 2, none⟩) (Kd.zj (p := ⟨gb438, 1, none⟩) (Kd.zj (p := ⟨gb438, 0, none⟩) (Kd.zF HO415.out BK438.out (by decide)) (fun _ hk => hk.2) (.int .i64 t431)) (fun _ hk => hk.2) (.int .i64 t432)) (fun _ hk => hk.2) (.int .i64 t433)) (fun _ hk => hk.2) (.slice Ao36 t434.length co36)) (fun _ h_ => h_.1))) hb); have n1_ := Aside0.mk (Kd.zG (by refine sqR ?_; exact (Kd.zo (Kd.zj (p := ⟨gb438, 3, none⟩) (Kd.zj (p := ⟨gb438, 2, none⟩) (Kd.zj (p := ⟨gb438, 1, none⟩) (Kd.zj (p := ⟨gb438, 0, none⟩) (Kd.zF HO421.out BK438.out (by decide)) (fun _ hk => hk.2) (.int .i64 t431)) (fun _ hk => hk.2) (.int .i64 t432)) (fun _ hk => hk.2) (.int .i64 t433)) (fun _ hk => hk.2) (.slice Ao36 t434.length co36)) (fun _ h_ => h_.1))) hb); have n2_ := Aside0.mk (Kd.zG (by refine sqR ?_; exact (Kd.zo (Kd.zj (p := ⟨gb438, 3, none⟩) (Kd.zj (p := ⟨gb438, 2, none⟩) (Kd.zj (p := ⟨gb438, 1, none⟩) (Kd.zj (p := ⟨gb438, 0, none⟩) (Kd.zF HO429.out BK438.out (by decide)) (fun _ hk => hk.2) (.int .i64 t431)) (fun _ hk => hk.2) (.int .i64 t432)) (fun _ hk => hk.2) (.int .i64 t433)) (fun _ hk => hk.2) (.slice Ao36 t434.length co36)) (fun _ h_ => h_.1))) hb); have n3_ := Aside0.mk (Kd.zG (by refine sqR ?_; exact (Kd.zo (Kd.zj (p := ⟨gb438, 3, none⟩) (Kd.zj (p := ⟨gb438, 2, none⟩) (Kd.zj (p := ⟨gb438, 1, none⟩) (Kd.zj (p := ⟨gb438, 0, none⟩) (Kd.zF HO436.out BK438.out (by decide)) (fun _ hk => hk.2) (.int .i64 t431)) (fun _ hk => hk.2) (.int .i64 t432)) (fun _ hk => hk.2) (.int .i64 t433)) (fun _ hk => hk.2) (.slice Ao36 t434.length co36)) (fun _ h_ => h_.1))) hb); have n4_ := Aside0.mk (ze (g := gb408) (o := .cells #[.int .i64 a0_0, .int .i64 a0_1, .int .i64 a0_2, .slice A0_3 l0_3.length c0_3] 24 (0, 0)) (by refine sqK ?_; refine zi ?_ NB408_438.out _; refine sqK ?_; refine zi ?_ NB408_438.out _; refine sqK ?_; refine zi ?_ NB408_438.out _; refine sqK ?_; refine zi ?_ NB408_438.out _; refine sqK ?_; exact BK408.out) hb); have n5_ := Aside0.mk (ze (g := gb423) (o := .cells #[.int .i64 t416, .int .i64 t417, .int .i64 t418, .slice Ao22 t419.length co22] 27 (0, 0)) (by refine sqK ?_; refine zi ?_ NB423_438.out _; refine sqK ?_; refine zi ?_ NB423_438.out _; refine sqK ?_; refine zi ?_ NB423_438.out _; refine sqK ?_; refine zi ?_ NB423_438.out _; refine sqK ?_; exact BK423.out) hb); have n6_ := Aside0.mk (ze (g := gb430) (o := .cells #[.int .i64 t424, .int .i64 t425, .int .i64 t426, .slice Ao29 t427.length co29] 27 (0, 0)) (by refine sqK ?_; refine zi ?_ NB430_438.out _; refine sqK ?_; refine zi ?_ NB430_438.out _; refine sqK ?_; refine zi ?_ NB430_438.out _; refine sqK ?_; refine zi ?_ NB430_438.out _; refine sqK ?_; exact BK430.out) hb); have n7_ := Aside0.mk (ze (g := gb438) (o := .cells #[.int .i64 t431, .int .i64 t432, .int .i64 t433, .slice Ao36 t434.length co36] 27 (0, 0)) (by refine sqK ?_; refine zy (cs := #[.int .i64 t431, .int .i64 t432, .int .i64 t433, .slice none 0 0]) ?_ 3 _ rfl; refine sqK ?_; refine zy (cs := #[.int .i64 t431, .int .i64 t432, .int .i64 0, .slice none 0 0]) ?_ 2 _ rfl; refine sqK ?_; refine zy (cs := #[.int .i64 t431, .int .i64 0, .int .i64 0, .slice none 0 0]) ?_ 1 _ rfl; refine sqK ?_; refine zy (cs := #[.int .i64 0, .int .i64 0, .int .i64 0, .slice none 0 0]) ?_ 0 _ rfl; refine sqK ?_; exact BK438.out) hb); have n8_ := Aside0.mk (zg sqB hb); clear HO415; clear HO421; clear HO429; clear HO436; clear BK408; clear BK423; clear BK430; clear BK438; clear HB; have HO415 := n0_; have HO421 := n1_; have HO429 := n2_; have HO436 := n3_; have BK408 := n4_; have BK423 := n5_; have BK430 := n6_; have BK438 := n7_; have HB := n8_; clear n0_ n1_ n2_ n3_ n4_ n5_ n6_ n7_ n8_; (try clear hb); (try clear hb2); (try clear hk); (try clear hi)))
    go_meet
    case rel => exact ⟨_, (true), (sqD), H', ⟨by first | omega | exact Nat.le_refl _⟩, ⟨by refine sqR ?_; exact Kd.zo HO421.out (fun _ hk => by first | exact ⟨hk.1.2, hk.2⟩ | (refine ⟨?_, ?_⟩ <;> intro e_ <;> simp only [e_, ne_eq, not_true_eq_false, and_false, false_and] at hk))⟩, ⟨by refine sqR ?_; exact Kd.zo HO429.out (fun _ hk => by first | exact ⟨hk.1.2, hk.2⟩ | (refine ⟨?_, ?_⟩ <;> intro e_ <;> simp only [e_, ne_eq, not_true_eq_false, and_false, false_and] at hk))⟩, ⟨by refine sqR ?_; exact Kd.zo HO436.out (fun _ hk => by first | exact ⟨hk.1.2, hk.2⟩ | (refine ⟨?_, ?_⟩ <;> intro e_ <;> simp only [e_, ne_eq, not_true_eq_false, and_false, false_and] at hk))⟩, ⟨sqK BK408.out⟩, ⟨sqK BK423.out⟩, ⟨sqK BK430.out⟩, ⟨sqK BK438.out⟩, ⟨sqB⟩⟩
  case rest =>
   clear HC11
   try clear c1
   try clear c2
   try clear p2
   try clear c3
   try clear c3b0
   try clear c4
   try clear c5
   try clear c10
   try clear c11
   try clear c13
   try clear c15
   try clear c20
   try clear c26
   try clear c27
   try clear c32
   try clear c33
   try clear c34
   try clear c35
   try clear c38
   try clear c39
   try clear c40
   try clear c41
   try clear c43
   try clear c44
   try clear c47
   try clear c48
   try clear c49
   try clear c51
   try clear c52
   try clear hcz13_0
   try clear hcz13_1
   try clear hcz13_2
   try clear hcz13_3
   try clear hcz15_0
   try clear hcz15_1
   try clear hcz15_2
   try clear hcz15_3
   try clear hcz21_0
   try clear hcz21_1
   try clear hcz21_2
   try clear hcz21_3
   try clear hcz23_0
   try clear hcz23_1
   try clear hcz23_2
   try clear hcz23_3
   try clear hcz28_0
   try clear hcz28_1
   try clear hcz28_2
   try clear hcz28_3
   try clear hcz35_0
   try clear hcz35_1
   try clear hcz35_2
   try clear hcz35_3
   try clear hcz42_0
   try clear hcz42_1
   try clear hcz42_2
   try clear hcz42_3
   try clear hcz45_0
   try clear hcz45_1
   try clear hcz45_2
   try clear hcz45_3
   try clear hcz50_0
   try clear hcz50_1
   try clear hcz50_2
   try clear hcz50_3
   try clear hcz53_0
   try clear hcz53_1
   try clear hcz53_2
   try clear hcz53_3
   try clear hcz5_0
   try clear hcz5_1
   try clear hcz5_2
   try clear hcz5_3
   try clear hfz13_0
   try clear hfz13_1
   try clear hfz13_2
   try clear hfz13_3
   try clear hfz15_0
   try clear hfz15_1
   try clear hfz15_2
   try clear hfz15_3
   try clear hfz21_0
   try clear hfz21_1
   try clear hfz21_2
   try clear hfz21_3
   try clear hfz23_0
   try clear hfz23_1
   try clear hfz23_2
   try clear hfz23_3
   try clear hfz28_0
   try clear hfz28_1
   try clear hfz28_2
   try clear hfz28_3
   try clear hfz35_0
   try clear hfz35_1
   try clear hfz35_2
   try clear hfz35_3
   try clear hfz42_0
   try clear hfz42_1
   try clear hfz42_2
   try clear hfz42_3
   try clear hfz45_0
   try clear hfz45_1
   try clear hfz45_2
   try clear hfz45_3
   try clear hfz50_0
   try clear hfz50_1
   try clear hfz50_2
   try clear hfz50_3
   try clear hfz53_0
   try clear hfz53_1
   try clear hfz53_2
   try clear hfz53_3
   try clear hfz5_0
   try clear hfz5_1
   try clear hfz5_2
   try clear hfz5_3
   obtain ⟨kq, x40_10, rfl, HA, HJ10, HO_424003, HO_431003, HO_439003, BK408, BK423, BK430, BK438, HB⟩ := hcut
   cases kq with
   | zero => exact absurd HA.out (by simp [zc.j0])
   | succ kj10 =>
    have H := HA.out
    clear HA
    simp only [zc.j0] at H
    by_cases c55 : x40_10 = true
    ·subst c55
     have H1 : (none) = some r := by rw [if_pos rfl] at H; exact H
     clear H
     have H := H1
     clear H1
     exact absurd H (by simp)
    ·replace c55 := Bool.eq_false_iff.mpr c55
     subst c55
     have H1 : ((zE.f kj10 a0_0 a0_1 a0_2 l0_3).bind fun bt440 => ((zB.f kj10 t424 t425 t426 t427 bt440.1 bt440.2.1 bt440.2.2.1 bt440.2.2.2).bind fun t446 => (if t446 = true then ((qk.f kj10 t424 t425 t426 t427 1).bind fun bt447 => (if bt447.1 < 0 then (zc.j1 kj10 t422 true a0_0 a0_1 a0_2 l0_3 t416 t417 t418 t419 t431 t432 t433 t434) else ((zB.f kj10 t431 t432 t433 t434 t416 t417 t418 t419).bind fun t449 => (if t449 = true then (zc.j1 kj10 t422 (t437 != t422) a0_0 a0_1 a0_2 l0_3 t416 t417 t418 t419 t431 t432 t433 t434) else (zc.j1 kj10 t422 true a0_0 a0_1 a0_2 l0_3 t416 t417 t418 t419 t431 t432 t433 t434))))) else (none)))) = some r := by rw [if_neg (show ¬ (false = true) by decide)] at H; exact H
     clear H
     have H := H1
     clear H1
     replace H := Option.bind_eq_some_iff.mp H
     obtain ⟨⟨t440, t441, t442, t443⟩, A560, H⟩ := H
     replace H : ((zB.f kj10 t424 t425 t426 t427 t440 t441 t442 t443).bind fun t446 => (if t446 = true then ((qk.f kj10 t424 t425 t426 t427 1).bind fun bt447 => (if bt447.1 < 0 then (zc.j1 kj10 t422 true a0_0 a0_1 a0_2 l0_3 t416 t417 t418 t419 t431 t432 t433 t434) else ((zB.f kj10 t431 t432 t433 t434 t416 t417 t418 t419).bind fun t449 => (if t449 = true then (zc.j1 kj10 t422 (t437 != t422) a0_0 a0_1 a0_2 l0_3 t416 t417 t418 t419 t431 t432 t433 t434) else (zc.j1 kj10 t422 true a0_0 a0_1 a0_2 l0_3 t416 t417 t418 t419 t431 t432 t433 t434))))) else (none))) = some r := H
     have A56 := Aside0.mk A560
     clear A560
     replace H := Option.bind_eq_some_iff.mp H
     obtain ⟨t446, A570, H⟩ := H
     replace H : (if t446 = true then ((qk.f kj10 t424 t425 t426 t427 1).bind fun bt447 => (if bt447.1 < 0 then (zc.j1 kj10 t422 true a0_0 a0_1 a0_2 l0_3 t416 t417 t418 t419 t431 t432 t433 t434) else ((zB.f kj10 t431 t432 t433 t434 t416 t417 t418 t419).bind fun t449 => (if t449 = true then (zc.j1 kj10 t422 (t437 != t422) a0_0 a0_1 a0_2 l0_3 t416 t417 t418 t419 t431 t432 t433 t434) else (zc.j1 kj10 t422 true a0_0 a0_1 a0_2 l0_3 t416 t417 t418 t419 t431 t432 t433 t434))))) else (none)) = some r := H
     have A57 := Aside0.mk A570
     clear A570
     by_cases c58 : t446 = true
     ·subst c58
      have H1 : ((qk.f kj10 t424 t425 t426 t427 1).bind fun bt447 => (if bt447.1 < 0 then (zc.j1 kj10 t422 true a0_0 a0_1 a0_2 l0_3 t416 t417 t418 t419 t431 t432 t433 t434) else ((zB.f kj10 t431 t432 t433 t434 t416 t417 t418 t419).bind fun t449 => (if t449 = true then (zc.j1 kj10 t422 (t437 != t422) a0_0 a0_1 a0_2 l0_3 t416 t417 t418 t419 t431 t432 t433 t434) else (zc.j1 kj10 t422 true a0_0 a0_1 a0_2 l0_3 t416 t417 t418 t419 t431 t432 t433 t434))))) = some r := by rw [if_pos rfl] at H; exact H
      clear H
      have H := H1
      clear H1
      replace H := Option.bind_eq_some_iff.mp H
      obtain ⟨⟨t447, t448⟩, A590, H⟩ := H
      replace H : (if t447 < 0 then (zc.j1 kj10 t422 true a0_0 a0_1 a0_2 l0_3 t416 t417 t418 t419 t431 t432 t433 t434) else ((zB.f kj10 t431 t432 t433 t434 t416 t417 t418 t419).bind fun t449 => (if t449 = true then (zc.j1 kj10 t422 (t437 != t422) a0_0 a0_1 a0_2 l0_3 t416 t417 t418 t419 t431 t432 t433 t434) else (zc.j1 kj10 t422 true a0_0 a0_1 a0_2 l0_3 t416 t417 t418 t419 t431 t432 t433 t434)))) = some r := H
      have A59 := Aside0.mk A590
      clear A590
      have HC60 := Aside0.mk H
      clear H
      try go_wp2
      have n0_ := Aside0.mk (Kd.qM HO_424003.out)
      have n1_ := Aside0.mk (Kd.qM HO_431003.out)
      have n2_ := Aside0.mk (Kd.qM HO_439003.out)
      have n3_ := Aside0.mk (qd BK408.out)
      have n4_ := Aside0.mk (qd BK423.out)
      have n5_ := Aside0.mk (qd BK430.out)
      have n6_ := Aside0.mk (qd BK438.out)
      have n7_ := Aside0.mk (zT HB.out)
      clear HO_424003 HO_431003 HO_439003 BK408 BK423 BK430 BK438 HB; have HO_424003 := n0_; have HO_431003 := n1_; have HO_439003 := n2_; have BK408 := n3_; have BK423 := n4_; have BK430 := n5_; have BK438 := n6_; have HB := n7_; clear n0_ n1_ n2_ n3_ n4_ n5_ n6_ n7_
      refine jU (n := 5) (S := fun w' => w'.cell? ⟨gb430, 0, none⟩ = some (.int .i64 t424) ∧ w'.cell? ⟨gb430, 1, none⟩ = some (.int .i64 t425) ∧ w'.cell? ⟨gb430, 2, none⟩ = some (.int .i64 t426) ∧ w'.cell? ⟨gb430, 3, none⟩ = some (.slice Ao29 t427.length co29) ∧ w'.cell? ⟨gb408, 0, none⟩ = some (.int .i64 a0_0) ∧ w'.cell? ⟨gb408, 1, none⟩ = some (.int .i64 a0_1) ∧ w'.cell? ⟨gb408, 2, none⟩ = some (.int .i64 a0_2) ∧ w'.cell? ⟨gb408, 3, none⟩ = some (.slice A0_3 l0_3.length c0_3)) (ds := []) #[false, false, false, false, false] (by kernel_rfl) rfl rfl ⟨(zb BK430.out 0).trans rfl, (zb BK430.out 1).trans rfl, (zb BK430.out 2).trans rfl, (zb BK430.out 3).trans rfl, (zb BK408.out 0).trans rfl, (zb BK408.out 1).trans rfl, (zb BK408.out 2).trans rfl, (zb BK408.out 3).trans rfl⟩ (fun hHeld => ?_)
      generalize wc.drew = w61 at HO_424003 HO_431003 HO_439003 BK408 BK423 BK430 BK438 HB hHeld ⊢
      refine qe (i := 0) (N := some 41) (v := ?_) (a' := ?_) #[true, false, false, false, false] rfl rfl (by kernel_rfl) (fun _ _ _ h => h) (Or.inl ⟨by rfl, ?_⟩) hHeld ?_ ?_
      rotate_left
      ·rintro w' ⟨s0, s1, s2, s3, s4, s5, s6, s7⟩; go_simp; with_reducible rfl
      rotate_left
      ·simp only [Act.put, List.setIfInBounds_toArray, List.set_cons_zero, List.set_cons_succ, zf, zh]; rfl
      refine qe (i := 1) (N := some 42) (v := ?_) (a' := ?_) #[true, true, false, false, false] rfl rfl (by kernel_rfl) (fun _ _ _ h => h) (Or.inl ⟨by rfl, ?_⟩) hHeld ?_ ?_
      rotate_left
      ·rintro w' ⟨s0, s1, s2, s3, s4, s5, s6, s7⟩; go_simp; with_reducible rfl
      rotate_left
      ·simp only [Act.put, List.setIfInBounds_toArray, List.set_cons_zero, List.set_cons_succ, zf, zh]; rfl
      refine Zq (i := 2) (N := some 43) #[true, true, true, false, false] rfl rfl (by kernel_rfl) (by decide) (fun K hK => ?_)
      refine yX Try.func13 (by kernel_rfl) rfl #[.agg #[.int .i64 a0_0, .int .i64 a0_1, .int .i64 a0_2, .slice A0_3 l0_3.length c0_3]] (by rfl) rfl rfl sqM ?_
      with_reducible refine (zE.calls kj10 a0_0 a0_1 a0_2 _ _ l0_3 t440 t441 t442 t443 _ ?side1 ?side2 A56.out).mono ?_
      (case side1 => exact sqC (Kd.z1 HR0_3.out HB.out))
      (case side2 => exact HC0_3.out)
      rintro e w62 ⟨v444, rfl, ho0, hb⟩
      refine ⟨_, rfl, ?_⟩
      have n0_ := Aside0.mk (Kd.qg (sqR HO_424003.out) (Kd.qC ho0) hb)
      have n1_ := Aside0.mk (Kd.qg (sqR HO_431003.out) (Kd.qC ho0) hb)
      have n2_ := Aside0.mk (Kd.qg (sqR HO_439003.out) (Kd.qC ho0) hb)
      have n3_ := Aside0.mk (Kd.qo (Kd.qG (Kd.qG (Kd.qG ho0 (Kd.jg (sqR HO_424003.out))) (Kd.jg (sqR HO_431003.out))) (Kd.jg (sqR HO_439003.out))) (zJ sqB))
      have n4_ := Aside0.mk (ze (g := gb408) (o := .cells #[.int .i64 a0_0, .int .i64 a0_1, .int .i64 a0_2, .slice A0_3 l0_3.length c0_3] 24 (0, 0)) (sqK BK408.out) hb)
      have n5_ := Aside0.mk (ze (g := gb423) (o := .cells #[.int .i64 t416, .int .i64 t417, .int .i64 t418, .slice Ao22 t419.length co22] 27 (0, 0)) (sqK BK423.out) hb)
      have n6_ := Aside0.mk (ze (g := gb430) (o := .cells #[.int .i64 t424, .int .i64 t425, .int .i64 t426, .slice Ao29 t427.length co29] 27 (0, 0)) (sqK BK430.out) hb)
      have n7_ := Aside0.mk (ze (g := gb438) (o := .cells #[.int .i64 t431, .int .i64 t432, .int .i64 t433, .slice Ao36 t434.length co36] 27 (0, 0)) (sqK BK438.out) hb)
      have n8_ := Aside0.mk (zg sqB hb)
      clear HO_424003 HO_431003 HO_439003 BK408 BK423 BK430 BK438 HB; have HO_424003 := n0_; have HO_431003 := n1_; have HO_439003 := n2_; have HO445 := n3_; have BK408 := n4_; have BK423 := n5_; have BK430 := n6_; have BK438 := n7_; have HB := n8_; clear n0_ n1_ n2_ n3_ n4_ n5_ n6_ n7_ n8_; (try clear hb); (try clear hb2); (try clear hk); (try clear hi); (try clear ho0)
      obtain ⟨Ao63, co63, eo63⟩ := Kd.zU HO445.out
      (first | subst eo63 | (injection eo63 with f1_ f2_ f3_; have f4_ := f1_.symm; have f5_ := f3_.symm; clear f1_ f2_ f3_; subst f4_; subst f5_))
      refine hK.out _ _ ⟨(zb BK430.out 0).trans rfl, (zb BK430.out 1).trans rfl, (zb BK430.out 2).trans rfl, (zb BK430.out 3).trans rfl, (zb BK408.out 0).trans rfl, (zb BK408.out 1).trans rfl, (zb BK408.out 2).trans rfl, (zb BK408.out 3).trans rfl⟩ (fun hHeld => ?_)
      clear hK K
      refine yi (a' := ?_) ?_ ?_
      rotate_left
      ·show Act.put _ (some 43) _ = _; simp only [Act.put, List.setIfInBounds_toArray, List.set_cons_zero, List.set_cons_succ, zf, zh]; rfl
      refine Zq (i := 3) (N := some 44) #[true, true, true, true, false] rfl rfl (by kernel_rfl) (by decide) (fun K hK => ?_)
      refine yX Try.func15 (by kernel_rfl) rfl #[.agg #[.int .i64 t424, .int .i64 t425, .int .i64 t426, .slice Ao29 t427.length co29], .agg #[.int .i64 t440, .int .i64 t441, .int .i64 t442, .slice Ao63 t443.length co63]] (by rfl) rfl rfl sqM ?_
      with_reducible refine (zB.calls kj10 t424 t425 t426 _ _ t427 t440 t441 t442 _ _ t443 true _ ?side1 ?side2 ?side3 ?side4 A57.out).mono ?_
      (case side1 => exact sqC (Kd.zu HO_431003.out).2.2)
      (case side2 => exact (Kd.zu HO_431003.out).2.1)
      (case side3 => exact sqC (Kd.zu HO445.out).2.2)
      (case side4 => exact (Kd.zu HO445.out).2.1)
      rintro e w64 ⟨rfl, hb⟩
      refine ⟨_, rfl, ?_⟩
      have n0_ := Aside0.mk (Kd.zG (sqR HO_424003.out) hb)
      have n1_ := Aside0.mk (Kd.zG (sqR HO_431003.out) hb)
      have n2_ := Aside0.mk (Kd.zG (sqR HO_439003.out) hb)
      have n3_ := Aside0.mk (Kd.zG (sqR HO445.out) hb)
      have n4_ := Aside0.mk (ze (g := gb408) (o := .cells #[.int .i64 a0_0, .int .i64 a0_1, .int .i64 a0_2, .slice A0_3 l0_3.length c0_3] 24 (0, 0)) (sqK BK408.out) hb)
      have n5_ := Aside0.mk (ze (g := gb423) (o := .cells #[.int .i64 t416, .int .i64 t417, .int .i64 t418, .slice Ao22 t419.length co22] 27 (0, 0)) (sqK BK423.out) hb)
      have n6_ := Aside0.mk (ze (g := gb430) (o := .cells #[.int .i64 t424, .int .i64 t425, .int .i64 t426, .slice Ao29 t427.length co29] 27 (0, 0)) (sqK BK430.out) hb)
      have n7_ := Aside0.mk (ze (g := gb438) (o := .cells #[.int .i64 t431, .int .i64 t432, .int .i64 t433, .slice Ao36 t434.length co36] 27 (0, 0)) (sqK BK438.out) hb)
      have n8_ := Aside0.mk (zg sqB hb)
      clear HO_424003 HO_431003 HO_439003 HO445 BK408 BK423 BK430 BK438 HB; have HO_424003 := n0_; have HO_431003 := n1_; have HO_439003 := n2_; have HO445 := n3_; have BK408 := n4_; have BK423 := n5_; have BK430 := n6_; have BK438 := n7_; have HB := n8_; clear n0_ n1_ n2_ n3_ n4_ n5_ n6_ n7_ n8_; (try clear hb); (try clear hb2); (try clear hk); (try clear hi)
      refine hK.out _ _ ⟨(zb BK430.out 0).trans rfl, (zb BK430.out 1).trans rfl, (zb BK430.out 2).trans rfl, (zb BK430.out 3).trans rfl, (zb BK408.out 0).trans rfl, (zb BK408.out 1).trans rfl, (zb BK408.out 2).trans rfl, (zb BK408.out 3).trans rfl⟩ (fun hHeld => ?_)
      clear hK K
      refine yi (a' := ?_) ?_ ?_
      rotate_left
      ·show Act.put _ (some 44) _ = _; simp only [Act.put, List.setIfInBounds_toArray, List.set_cons_zero, List.set_cons_succ, zf, zh]; rfl
      refine zx (i := 4) (N := some 45) (v := ?_) (a' := ?_) #[true, true, true, true, true] rfl rfl (by kernel_rfl) (fun _ _ _ h => h) (Or.inl ⟨by rfl, ?_⟩) ?_ ?_
      rotate_left
      ·intro w'; go_simp; with_reducible rfl
      rotate_left
      ·simp only [Act.put, List.setIfInBounds_toArray, List.set_cons_zero, List.set_cons_succ, zf, zh]; rfl
      refine vI (by kernel_rfl) ?_
      have hnb65 := NB430_408.out
      have hnc65 := NB408_430.out
      have hnb66 := NB430_423.out
      have hnc66 := NB423_430.out
      have hnb67 := NB430_438.out
      have hnc67 := NB438_430.out
      have hcz68_0 : w64.cell? ⟨gb430, 0, none⟩ = some (.int .i64 t424) := (zb BK430.out 0).trans rfl
      have hcz68_1 : w64.cell? ⟨gb430, 1, none⟩ = some (.int .i64 t425) := (zb BK430.out 1).trans rfl
      have hcz68_2 : w64.cell? ⟨gb430, 2, none⟩ = some (.int .i64 t426) := (zb BK430.out 2).trans rfl
      have hcz68_3 : w64.cell? ⟨gb430, 3, none⟩ = some (.slice Ao29 t427.length co29) := (zb BK430.out 3).trans rfl
      have hfz68_0 := za BK430.out 0; have hfz68_1 := za BK430.out 1; have hfz68_2 := za BK430.out 2; have hfz68_3 := za BK430.out 3
      go_upto_region 14 with (first | ((with_reducible refine zp (f := 26) rfl ?_); refine zP (some 48) rfl rfl Try.func26 (by kernel_rfl) rfl #[.agg #[.int .i64 t424, .int .i64 t425, .int .i64 t426, .slice Ao29 t427.length co29], .int .i64 1] rfl sqM ?_; (with_reducible refine (qk.calls kj10 t424 t425 t426 (fun k_ => some k_ = (.slice Ao29 t427.length co29 : Value).ownBlock) (.slice Ao29 t427.length co29) t427 1 t447 t448 w _ ?side1 ?side2 A59.out).mono ?_); (case side1 => repeat (first | (with_reducible first | exact HB.out | apply qc | apply z6 | apply zT | refine zO ?_ GE408.out | refine zO ?_ GE423.out | refine zO ?_ GE430.out | refine zO ?_ GE438.out) | exact HB.out)); (case side2 => exact Kd.vJ rfl HO_431003.out); rintro e w69 ⟨rfl, hy0, hb, hkp⟩; refine ⟨_, rfl, ?_⟩; have n0_ := Aside0.mk (Kd.zo (ok' := fun k_ => some k_ ≠ (.slice Ao29 t427.length co29 : Value).ownBlock ∧ some k_ ≠ (.slice Ao36 t434.length co36 : Value).ownBlock ∧ some k_ ≠ (.slice Ao63 t443.length co63 : Value).ownBlock) (Kd.Zg (HO_424003.out) hkp (fun k_ hk_ hs_ => by first | exact hk_.1.1 hs_ | (have e_ : some k_ = _ := hs_; simp only [e_, ne_eq, not_true_eq_false, and_false, false_and] at hk_))) (fun k_ hk_ => by first | exact ⟨hk_.1.1.1, hk_.1.1.2, hk_.1.2⟩ | (refine ⟨?_, ?_, ?_⟩ <;> intro e_ <;> simp only [e_, ne_eq, not_true_eq_false, and_false, false_and] at hk_))); have n1_ := Aside0.mk (Kd.ZW rfl hy0 (fun k_ e_ => HO_431003.out.1 k_ e_)); have n2_ := Aside0.mk (Kd.zo (ok' := fun k_ => some k_ ≠ (.slice Ao22 t419.length co22 : Value).ownBlock ∧ some k_ ≠ (.slice Ao29 t427.length co29 : Value).ownBlock ∧ some k_ ≠ (.slice Ao63 t443.length co63 : Value).ownBlock) (Kd.Zg (HO_439003.out) hkp (fun k_ hk_ hs_ => by first | exact hk_.1.2 hs_ | (have e_ : some k_ = _ := hs_; simp only [e_, ne_eq, not_true_eq_false, and_false, false_and] at hk_))) (fun k_ hk_ => by first | exact ⟨hk_.1.1.1, hk_.1.1.2, hk_.1.2⟩ | (refine ⟨?_, ?_, ?_⟩ <;> intro e_ <;> simp only [e_, ne_eq, not_true_eq_false, and_false, false_and] at hk_))); have n3_ := Aside0.mk (ja (sqK BK408.out) hkp (fun hs_ => (fun e_ => (Kd.qH HO_431003.out BK408.out (by decide)) e_) hs_)); have n4_ := Aside0.mk (ja (sqK BK423.out) hkp (fun hs_ => (fun e_ => (Kd.qH HO_431003.out BK423.out (by decide)) e_) hs_)); have n5_ := Aside0.mk (ja (sqK BK430.out) hkp (fun hs_ => (fun e_ => (Kd.qH HO_431003.out BK430.out (by decide)) e_) hs_)); have n6_ := Aside0.mk (ja (sqK BK438.out) hkp (fun hs_ => (fun e_ => (Kd.qH HO_431003.out BK438.out (by decide)) e_) hs_)); have n7_ := Aside0.mk (Kd.zo (ok' := fun k_ => some k_ ≠ (.slice Ao22 t419.length co22 : Value).ownBlock ∧ some k_ ≠ (.slice Ao29 t427.length co29 : Value).ownBlock ∧ some k_ ≠ (.slice Ao36 t434.length co36 : Value).ownBlock) (Kd.Zg (HO445.out) hkp (fun k_ hk_ hs_ => by first | exact hk_.1.2 hs_ | (have e_ : some k_ = _ := hs_; simp only [e_, ne_eq, not_true_eq_false, and_false, false_and] at hk_))) (fun k_ hk_ => by first | exact ⟨hk_.1.1.1.2, hk_.1.1.2, hk_.1.2⟩ | (refine ⟨?_, ?_, ?_⟩ <;> intro e_ <;> simp only [e_, ne_eq, not_true_eq_false, and_false, false_and] at hk_))); have n8_ := Aside0.mk (hb); clear HO_424003; clear HO_431003; clear HO_439003; clear BK408; clear BK423; clear BK430; clear BK438; clear HO445; clear HB; have HO_424003 := n0_; have HO_431003 := n1_; have HO_439003 := n2_; have BK408 := n3_; have BK423 := n4_; have BK430 := n5_; have BK438 := n6_; have HO445 := n7_; have HB := n8_; clear n0_ n1_ n2_ n3_ n4_ n5_ n6_ n7_ n8_; (try clear hb); (try clear hkp); (try clear hy0)))
      (try simp only [Act.put, List.setIfInBounds_toArray, List.set_cons_zero, List.set_cons_succ])
      go_cut [61] (fun v61 wc => ∃ (kq : Nat) (x61_59 : Bool), v61 = .bool x61_59 ∧ Aside0 (zc.j1 kq t422 x61_59 a0_0 a0_1 a0_2 l0_3 t416 t417 t418 t419 t431 t432 t433 t434 = some r) ∧ Aside0 (kq ≤ kj10) ∧ Aside0 (Kd.R (Kd.int .i64) 3 wc w.heap.size (fun k_ => some k_ ≠ ((.slice Ao29 t427.length co29) : Value).ownBlock ∧ some k_ ≠ ((.slice Ao36 t434.length co36) : Value).ownBlock) (.slice Ao22 t419.length co22) t419) ∧ Aside0 (Kd.R (Kd.int .i64) 3 wc w.heap.size (fun k_ => some k_ ≠ ((.slice Ao22 t419.length co22) : Value).ownBlock ∧ some k_ ≠ ((.slice Ao36 t434.length co36) : Value).ownBlock) (.slice Ao29 t427.length co29) t448) ∧ Aside0 (Kd.R (Kd.int .i64) 3 wc w.heap.size (fun k_ => some k_ ≠ ((.slice Ao22 t419.length co22) : Value).ownBlock ∧ some k_ ≠ ((.slice Ao29 t427.length co29) : Value).ownBlock) (.slice Ao36 t434.length co36) t434) ∧ Aside0 (wc.heap[gb408]? = some (.cells #[.int .i64 a0_0, .int .i64 a0_1, .int .i64 a0_2, (.slice A0_3 l0_3.length c0_3)] 24 (0, 0))) ∧ Aside0 (wc.heap[gb423]? = some (.cells #[.int .i64 t416, .int .i64 t417, .int .i64 t418, (.slice Ao22 t419.length co22)] 27 (0, 0))) ∧ Aside0 (wc.heap[gb430]? = some (.cells #[.int .i64 t424, .int .i64 t425, .int .i64 t426, (.slice Ao29 t427.length co29)] 27 (0, 0))) ∧ Aside0 (wc.heap[gb438]? = some (.cells #[.int .i64 t431, .int .i64 t432, .int .i64 t433, (.slice Ao36 t434.length co36)] 27 (0, 0))) ∧ Aside0 (Below w.heap.size w wc))
      case first =>
       have H := HC60.out
       clear HC60
       by_cases c70 : t447 < 0
       ·rw [if_pos c70] at H
        have c70b0 : decide (t447 < 0) = true := decide_eq_true c70
        clear c70
        (first | rw [c70b0] | (simp only [zf, zh]; rw [c70b0]) | skip)
        have H' := Aside0.mk H
        clear H
        go_wp2
        go_meet
        case rel => exact ⟨_, (true), (sqD), H', ⟨by have := HJ10.out; first | omega | exact Nat.le_refl _⟩, ⟨by refine sqR ?_; exact Kd.zo HO_424003.out (fun _ hk => by first | exact ⟨hk.1, hk.2.1⟩ | (refine ⟨?_, ?_⟩ <;> intro e_ <;> simp only [e_, ne_eq, not_true_eq_false, and_false, false_and] at hk))⟩, ⟨by refine sqR ?_; exact Kd.zo HO_431003.out (fun _ hk => by first | exact ⟨hk.1.1, hk.1.2⟩ | (refine ⟨?_, ?_⟩ <;> intro e_ <;> simp only [e_, ne_eq, not_true_eq_false, and_false, false_and] at hk))⟩, ⟨by refine sqR ?_; exact Kd.zo HO_439003.out (fun _ hk => by first | exact ⟨hk.1, hk.2.1⟩ | (refine ⟨?_, ?_⟩ <;> intro e_ <;> simp only [e_, ne_eq, not_true_eq_false, and_false, false_and] at hk))⟩, ⟨sqK BK408.out⟩, ⟨sqK BK423.out⟩, ⟨sqK BK430.out⟩, ⟨sqK BK438.out⟩, ⟨sqB⟩⟩
       ·rw [if_neg c70] at H
        have c70b0 : decide (t447 < 0) = false := decide_eq_false c70
        clear c70
        (first | rw [c70b0] | (simp only [zf, zh]; rw [c70b0]) | skip)
        replace H := Option.bind_eq_some_iff.mp H
        obtain ⟨t449, A710, H⟩ := H
        replace H : (if t449 = true then (zc.j1 kj10 t422 (t437 != t422) a0_0 a0_1 a0_2 l0_3 t416 t417 t418 t419 t431 t432 t433 t434) else (zc.j1 kj10 t422 true a0_0 a0_1 a0_2 l0_3 t416 t417 t418 t419 t431 t432 t433 t434)) = some r := H
        have A71 := Aside0.mk A710
        clear A710
        by_cases c72 : t449 = true
        ·subst c72
         have H1 : (zc.j1 kj10 t422 (t437 != t422) a0_0 a0_1 a0_2 l0_3 t416 t417 t418 t419 t431 t432 t433 t434) = some r := by rw [if_pos rfl] at H; exact H
         clear H
         have H := H1
         clear H1
         have H' := Aside0.mk H
         clear H
         have hnb73 := NB438_408.out
         have hnc73 := NB408_438.out
         have hnb74 := NB438_423.out
         have hnc74 := NB423_438.out
         have hnb75 := NB438_430.out
         have hnc75 := NB430_438.out
         have hcz76_0 : w69.cell? ⟨gb438, 0, none⟩ = some (.int .i64 t431) := (zb BK438.out 0).trans rfl
         have hcz76_1 : w69.cell? ⟨gb438, 1, none⟩ = some (.int .i64 t432) := (zb BK438.out 1).trans rfl
         have hcz76_2 : w69.cell? ⟨gb438, 2, none⟩ = some (.int .i64 t433) := (zb BK438.out 2).trans rfl
         have hcz76_3 : w69.cell? ⟨gb438, 3, none⟩ = some (.slice Ao36 t434.length co36) := (zb BK438.out 3).trans rfl
         have hfz76_0 := za BK438.out 0; have hfz76_1 := za BK438.out 1; have hfz76_2 := za BK438.out 2; have hfz76_3 := za BK438.out 3
         have hnb77 := NB423_408.out
         have hnc77 := NB408_423.out
         have hnb78 := NB423_430.out
         have hnc78 := NB430_423.out
         have hcz79_0 : w69.cell? ⟨gb423, 0, none⟩ = some (.int .i64 t416) := (zb BK423.out 0).trans rfl
         have hcz79_1 : w69.cell? ⟨gb423, 1, none⟩ = some (.int .i64 t417) := (zb BK423.out 1).trans rfl
         have hcz79_2 : w69.cell? ⟨gb423, 2, none⟩ = some (.int .i64 t418) := (zb BK423.out 2).trans rfl
         have hcz79_3 : w69.cell? ⟨gb423, 3, none⟩ = some (.slice Ao22 t419.length co22) := (zb BK423.out 3).trans rfl
         have hfz79_0 := za BK423.out 0; have hfz79_1 := za BK423.out 1; have hfz79_2 := za BK423.out 2; have hfz79_3 := za BK423.out 3
         go_wp2_with (first | (go_at_call 15; (try simp only [zf, zh]); (with_reducible refine (zB.calls kj10 t431 t432 t433 _ _ t434 t416 t417 t418 _ _ t419 true _ ?side1 ?side2 ?side3 ?side4 A71.out).mono ?_); (case side1 => exact sqC (Kd.zu HO_439003.out).2.2); (case side2 => exact (Kd.zu HO_439003.out).2.1); (case side3 => exact sqC (Kd.zu HO_424003.out).2.2); (case side4 => exact (Kd.zu HO_424003.out).2.1); rintro e w80 ⟨rfl, hb⟩; have n0_ := Aside0.mk (Kd.zG (sqR HO_424003.out) hb); have n1_ := Aside0.mk (Kd.zG (sqR HO_431003.out) hb); have n2_ := Aside0.mk (Kd.zG (sqR HO_439003.out) hb); have n3_ := Aside0.mk (Kd.zG (sqR HO445.out) hb); have n4_ := Aside0.mk (ze (g := gb408) (o := .cells #[.int .i64 a0_0, .int .i64 a0_1, .int .i64 a0_2, .slice A0_3 l0_3.length c0_3] 24 (0, 0)) (sqK BK408.out) hb); have n5_ := Aside0.mk (ze (g := gb423) (o := .cells #[.int .i64 t416, .int .i64 t417, .int .i64 t418, .slice Ao22 t419.length co22] 27 (0, 0)) (sqK BK423.out) hb); have n6_ := Aside0.mk (ze (g := gb430) (o := .cells #[.int .i64 t424, .int .i64 t425, .int .i64 t426, .slice Ao29 t427.length co29] 27 (0, 0)) (sqK BK430.out) hb); have n7_ := Aside0.mk (ze (g := gb438) (o := .cells #[.int .i64 t431, .int .i64 t432, .int .i64 t433, .slice Ao36 t434.length co36] 27 (0, 0)) (sqK BK438.out) hb); have n8_ := Aside0.mk (zg sqB hb); clear HO_424003; clear HO_431003; clear HO_439003; clear HO445; clear BK408; clear BK423; clear BK430; clear BK438; clear HB; have HO_424003 := n0_; have HO_431003 := n1_; have HO_439003 := n2_; have HO445 := n3_; have BK408 := n4_; have BK423 := n5_; have BK430 := n6_; have BK438 := n7_; have HB := n8_; clear n0_ n1_ n2_ n3_ n4_ n5_ n6_ n7_ n8_; (try clear hb); (try clear hb2); (try clear hk); (try clear hi)))
         go_meet
         case rel => exact ⟨_, ((t437 != t422)), (sqD), H', ⟨by have := HJ10.out; first | omega | exact Nat.le_refl _⟩, ⟨by refine sqR ?_; exact Kd.zo HO_424003.out (fun _ hk => by first | exact ⟨hk.1, hk.2.1⟩ | (refine ⟨?_, ?_⟩ <;> intro e_ <;> simp only [e_, ne_eq, not_true_eq_false, and_false, false_and] at hk))⟩, ⟨by refine sqR ?_; exact Kd.zo HO_431003.out (fun _ hk => by first | exact ⟨hk.1.1, hk.1.2⟩ | (refine ⟨?_, ?_⟩ <;> intro e_ <;> simp only [e_, ne_eq, not_true_eq_false, and_false, false_and] at hk))⟩, ⟨by refine sqR ?_; exact Kd.zo HO_439003.out (fun _ hk => by first | exact ⟨hk.1, hk.2.1⟩ | (refine ⟨?_, ?_⟩ <;> intro e_ <;> simp only [e_, ne_eq, not_true_eq_false, and_false, false_and] at hk))⟩, ⟨sqK BK408.out⟩, ⟨sqK BK423.out⟩, ⟨sqK BK430.out⟩, ⟨sqK BK438.out⟩, ⟨sqB⟩⟩
        ·replace c72 := Bool.eq_false_iff.mpr c72
         subst c72
         have H1 : (zc.j1 kj10 t422 true a0_0 a0_1 a0_2 l0_3 t416 t417 t418 t419 t431 t432 t433 t434) = some r := by rw [if_neg (show ¬ (false = true) by decide)] at H; exact H
         clear H
         have H := H1
         clear H1
         have H' := Aside0.mk H
         clear H
         have hnb81 := NB438_408.out
         have hnc81 := NB408_438.out
         have hnb82 := NB438_423.out
         have hnc82 := NB423_438.out
         have hnb83 := NB438_430.out
         have hnc83 := NB430_438.out
         have hcz84_0 : w69.cell? ⟨gb438, 0, none⟩ = some (.int .i64 t431) := (zb BK438.out 0).trans rfl
         have hcz84_1 : w69.cell? ⟨gb438, 1, none⟩ = some (.int .i64 t432) := (zb BK438.out 1).trans rfl
         have hcz84_2 : w69.cell? ⟨gb438, 2, none⟩ = some (.int .i64 t433) := (zb BK438.out 2).trans rfl
         have hcz84_3 : w69.cell? ⟨gb438, 3, none⟩ = some (.slice Ao36 t434.length co36) := (zb BK438.out 3).trans rfl
         have hfz84_0 := za BK438.out 0; have hfz84_1 := za BK438.out 1; have hfz84_2 := za BK438.out 2; have hfz84_3 := za BK438.out 3
         have hnb85 := NB423_408.out
         have hnc85 := NB408_423.out
         have hnb86 := NB423_430.out
         have hnc86 := NB430_423.out
         have hcz87_0 : w69.cell? ⟨gb423, 0, none⟩ = some (.int .i64 t416) := (zb BK423.out 0).trans rfl
         have hcz87_1 : w69.cell? ⟨gb423, 1, none⟩ = some (.int .i64 t417) := (zb BK423.out 1).trans rfl
         have hcz87_2 : w69.cell? ⟨gb423, 2, none⟩ = some (.int .i64 t418) := (zb BK423.out 2).trans rfl
         have hcz87_3 : w69.cell? ⟨gb423, 3, none⟩ = some (.slice Ao22 t419.length co22) := (zb BK423.out 3).trans rfl
         have hfz87_0 := za BK423.out 0; have hfz87_1 := za BK423.out 1; have hfz87_2 := za BK423.out 2; have hfz87_3 := za BK423.out 3
         go_wp2_with (first | (go_at_call 15; (try simp only [zf, zh]); (with_reducible refine (zB.calls kj10 t431 t432 t433 _ _ t434 t416 t417 t418 _ _ t419 false _ ?side1 ?side2 ?side3 ?side4 A71.out).mono ?_); (case side1 => exact sqC (Kd.zu HO_439003.out).2.2); (case side2 => exact (Kd.zu HO_439003.out).2.1); (case side3 => exact sqC (Kd.zu HO_424003.out).2.2); (case side4 => exact (Kd.zu HO_424003.out).2.1); rintro e w88 ⟨rfl, hb⟩; have n0_ := Aside0.mk (Kd.zG (sqR HO_424003.out) hb); have n1_ := Aside0.mk (Kd.zG (sqR HO_431003.out) hb); have n2_ := Aside0.mk (Kd.zG (sqR HO_439003.out) hb); have n3_ := Aside0.mk (Kd.zG (sqR HO445.out) hb); have n4_ := Aside0.mk (ze (g := gb408) (o := .cells #[.int .i64 a0_0, .int .i64 a0_1, .int .i64 a0_2, .slice A0_3 l0_3.length c0_3] 24 (0, 0)) (sqK BK408.out) hb); have n5_ := Aside0.mk (ze (g := gb423) (o := .cells #[.int .i64 t416, .int .i64 t417, .int .i64 t418, .slice Ao22 t419.length co22] 27 (0, 0)) (sqK BK423.out) hb); have n6_ := Aside0.mk (ze (g := gb430) (o := .cells #[.int .i64 t424, .int .i64 t425, .int .i64 t426, .slice Ao29 t427.length co29] 27 (0, 0)) (sqK BK430.out) hb); have n7_ := Aside0.mk (ze (g := gb438) (o := .cells #[.int .i64 t431, .int .i64 t432, .int .i64 t433, .slice Ao36 t434.length co36] 27 (0, 0)) (sqK BK438.out) hb); have n8_ := Aside0.mk (zg sqB hb); clear HO_424003; clear HO_431003; clear HO_439003; clear HO445; clear BK408; clear BK423; clear BK430; clear BK438; clear HB; have HO_424003 := n0_; have HO_431003 := n1_; have HO_439003 := n2_; have HO445 := n3_; have BK408 := n4_; have BK423 := n5_; have BK430 := n6_; have BK438 := n7_; have HB := n8_; clear n0_ n1_ n2_ n3_ n4_ n5_ n6_ n7_ n8_; (try clear hb); (try clear hb2); (try clear hk); (try clear hi)))
         go_meet
         case rel => exact ⟨_, (true), (sqD), H', ⟨by have := HJ10.out; first | omega | exact Nat.le_refl _⟩, ⟨by refine sqR ?_; exact Kd.zo HO_424003.out (fun _ hk => by first | exact ⟨hk.1, hk.2.1⟩ | (refine ⟨?_, ?_⟩ <;> intro e_ <;> simp only [e_, ne_eq, not_true_eq_false, and_false, false_and] at hk))⟩, ⟨by refine sqR ?_; exact Kd.zo HO_431003.out (fun _ hk => by first | exact ⟨hk.1.1, hk.1.2⟩ | (refine ⟨?_, ?_⟩ <;> intro e_ <;> simp only [e_, ne_eq, not_true_eq_false, and_false, false_and] at hk))⟩, ⟨by refine sqR ?_; exact Kd.zo HO_439003.out (fun _ hk => by first | exact ⟨hk.1, hk.2.1⟩ | (refine ⟨?_, ?_⟩ <;> intro e_ <;> simp only [e_, ne_eq, not_true_eq_false, and_false, false_and] at hk))⟩, ⟨sqK BK408.out⟩, ⟨sqK BK423.out⟩, ⟨sqK BK430.out⟩, ⟨sqK BK438.out⟩, ⟨sqB⟩⟩
      case rest =>
       clear HC60
       try clear c1
       try clear c2
       try clear p2
       try clear c3
       try clear c3b0
       try clear c4
       try clear c5
       try clear c6
       try clear c7
       try clear c8
       try clear c10
       try clear c11
       try clear c13
       try clear c15
       try clear c20
       try clear c26
       try clear c27
       try clear c32
       try clear c33
       try clear c34
       try clear c35
       try clear c38
       try clear c39
       try clear c40
       try clear c41
       try clear c43
       try clear c44
       try clear c47
       try clear c48
       try clear c49
       try clear c51
       try clear c52
       try clear c55
       try clear c58
       try clear c65
       try clear c66
       try clear c67
       try clear c70
       try clear c70b0
       try clear c72
       try clear c73
       try clear c74
       try clear c75
       try clear c77
       try clear c78
       try clear c81
       try clear c82
       try clear c83
       try clear c85
       try clear c86
       try clear hcz13_0
       try clear hcz13_1
       try clear hcz13_2
       try clear hcz13_3
       try clear hcz15_0
       try clear hcz15_1
       try clear hcz15_2
       try clear hcz15_3
       try clear hcz21_0
       try clear hcz21_1
       try clear hcz21_2
       try clear hcz21_3
       try clear hcz23_0
       try clear hcz23_1
       try clear hcz23_2
       try clear hcz23_3
       try clear hcz28_0
       try clear hcz28_1
       try clear hcz28_2
       try clear hcz28_3
       try clear hcz35_0
       try clear hcz35_1
       try clear hcz35_2
       try clear hcz35_3
       try clear hcz42_0
       try clear hcz42_1
       try clear hcz42_2
       try clear hcz42_3
       try clear hcz45_0
       try clear hcz45_1
       try clear hcz45_2
       try clear hcz45_3
       try clear hcz50_0
       try clear hcz50_1
       try clear hcz50_2
       try clear hcz50_3
       try clear hcz53_0
       try clear hcz53_1
       try clear hcz53_2
       try clear hcz53_3
       try clear hcz5_0
       try clear hcz5_1
       try clear hcz5_2
       try clear hcz5_3
       try clear hcz68_0
       try clear hcz68_1
       try clear hcz68_2
       try clear hcz68_3
       try clear hcz76_0
       try clear hcz76_1
       try clear hcz76_2
       try clear hcz76_3
       try clear hcz79_0
       try clear hcz79_1
       try clear hcz79_2
       try clear hcz79_3
       try clear hcz84_0
       try clear hcz84_1
       try clear hcz84_2
       try clear hcz84_3
       try clear hcz87_0
       try clear hcz87_1
       try clear hcz87_2
       try clear hcz87_3
       try clear hfz13_0
       try clear hfz13_1
       try clear hfz13_2
       try clear hfz13_3
       try clear hfz15_0
       try clear hfz15_1
       try clear hfz15_2
       try clear hfz15_3
       try clear hfz21_0
       try clear hfz21_1
       try clear hfz21_2
       try clear hfz21_3
       try clear hfz23_0
       try clear hfz23_1
       try clear hfz23_2
       try clear hfz23_3
       try clear hfz28_0
       try clear hfz28_1
       try clear hfz28_2
       try clear hfz28_3
       try clear hfz35_0
       try clear hfz35_1
       try clear hfz35_2
       try clear hfz35_3
       try clear hfz42_0
       try clear hfz42_1
       try clear hfz42_2
       try clear hfz42_3
       try clear hfz45_0
       try clear hfz45_1
       try clear hfz45_2
       try clear hfz45_3
       try clear hfz50_0
       try clear hfz50_1
       try clear hfz50_2
       try clear hfz50_3
       try clear hfz53_0
       try clear hfz53_1
       try clear hfz53_2
       try clear hfz53_3
       try clear hfz5_0
       try clear hfz5_1
       try clear hfz5_2
       try clear hfz5_3
       try clear hfz68_0
       try clear hfz68_1
       try clear hfz68_2
       try clear hfz68_3
       try clear hfz76_0
       try clear hfz76_1
       try clear hfz76_2
       try clear hfz76_3
       try clear hfz79_0
       try clear hfz79_1
       try clear hfz79_2
       try clear hfz79_3
       try clear hfz84_0
       try clear hfz84_1
       try clear hfz84_2
       try clear hfz84_3
       try clear hfz87_0
       try clear hfz87_1
       try clear hfz87_2
       try clear hfz87_3
       try clear p2
       obtain ⟨kq, x61_59, rfl, HA, HJ59, HO_424003, HO_431003, HO_439003, BK408, BK423, BK430, BK438, HB⟩ := hcut
       have hl431003_59 := (Kd.zu HO_431003.out).1
       rw [hl431003_59] at HO_431003
       (try simp only [hl431003_59])
       (try simp only [hl431003_59] at BK408)
       (try simp only [hl431003_59] at BK423)
       (try simp only [hl431003_59] at BK430)
       (try simp only [hl431003_59] at BK438)
       (try simp only [hl431003_59] at HO_424003)
       (try simp only [hl431003_59] at HO_439003)
       cases kq with
       | zero => exact absurd HA.out (by simp [zc.j1])
       | succ kj59 =>
        have H := HA.out
        clear HA
        simp only [zc.j1] at H
        by_cases c89 : x61_59 = true
        ·subst c89
         have H1 : (none) = some r := by rw [if_pos rfl] at H; exact H
         clear H
         have H := H1
         clear H1
         exact absurd H (by simp)
        ·replace c89 := Bool.eq_false_iff.mpr c89
         subst c89
         have H1 : ((qk.f kj59 t431 t432 t433 t434 1).bind fun bt450 => ((qz.f kj59 t431 t432 t433 bt450.2 1).bind fun t452 => (if t452 < 0 then (none) else (if t452 = bt450.1 then ((zE.f kj59 a0_0 a0_1 a0_2 l0_3).bind fun bt453 => ((zm.f kj59 bt453.1 bt453.2.1 bt453.2.2.1 bt453.2.2.2).bind fun bt459 => ((zB.f kj59 bt459.1 bt459.2.1 bt459.2.2.1 bt459.2.2.2.1 t416 t417 t418 t419).bind fun t467 => (if t467 = true then (zc.j2 kj59 bt450.1 (bt459.2.2.2.2 != t422) t431 t432 t433 bt450.2) else (zc.j2 kj59 bt450.1 true t431 t432 t433 bt450.2))))) else (none))))) = some r := by rw [if_neg (show ¬ (false = true) by decide)] at H; exact H
         clear H
         have H := H1
         clear H1
         replace H := Option.bind_eq_some_iff.mp H
         obtain ⟨⟨t450, t451⟩, A900, H⟩ := H
         replace H : ((qz.f kj59 t431 t432 t433 t451 1).bind fun t452 => (if t452 < 0 then (none) else (if t452 = t450 then ((zE.f kj59 a0_0 a0_1 a0_2 l0_3).bind fun bt453 => ((zm.f kj59 bt453.1 bt453.2.1 bt453.2.2.1 bt453.2.2.2).bind fun bt459 => ((zB.f kj59 bt459.1 bt459.2.1 bt459.2.2.1 bt459.2.2.2.1 t416 t417 t418 t419).bind fun t467 => (if t467 = true then (zc.j2 kj59 t450 (bt459.2.2.2.2 != t422) t431 t432 t433 t451) else (zc.j2 kj59 t450 true t431 t432 t433 t451))))) else (none)))) = some r := H
         have A90 := Aside0.mk A900
         clear A900
         replace H := Option.bind_eq_some_iff.mp H
         obtain ⟨t452, A910, H⟩ := H
         replace H : (if t452 < 0 then (none) else (if t452 = t450 then ((zE.f kj59 a0_0 a0_1 a0_2 l0_3).bind fun bt453 => ((zm.f kj59 bt453.1 bt453.2.1 bt453.2.2.1 bt453.2.2.2).bind fun bt459 => ((zB.f kj59 bt459.1 bt459.2.1 bt459.2.2.1 bt459.2.2.2.1 t416 t417 t418 t419).bind fun t467 => (if t467 = true then (zc.j2 kj59 t450 (bt459.2.2.2.2 != t422) t431 t432 t433 t451) else (zc.j2 kj59 t450 true t431 t432 t433 t451))))) else (none))) = some r := H
         have A91 := Aside0.mk A910
         clear A910
         by_cases c92 : t452 < 0
         ·rw [if_pos c92] at H
          exact absurd H (by simp)
         ·rw [if_neg c92] at H
          have c92b0 : decide (t452 < 0) = false := decide_eq_false c92
          clear c92
          by_cases c93 : t452 = t450
          ·rw [if_pos c93] at H
           have c93b0 : (t452 == t450) = true := beq_iff_eq.mpr c93
           have c93b1 : (t452 != t450) = false := bne_eq_false_iff_eq.mpr c93
           clear c93
           replace H := Option.bind_eq_some_iff.mp H
           obtain ⟨⟨t453, t454, t455, t456⟩, A940, H⟩ := H
           replace H : ((zm.f kj59 t453 t454 t455 t456).bind fun bt459 => ((zB.f kj59 bt459.1 bt459.2.1 bt459.2.2.1 bt459.2.2.2.1 t416 t417 t418 t419).bind fun t467 => (if t467 = true then (zc.j2 kj59 t450 (bt459.2.2.2.2 != t422) t431 t432 t433 t451) else (zc.j2 kj59 t450 true t431 t432 t433 t451)))) = some r := H
           have A94 := Aside0.mk A940
           clear A940
           replace H := Option.bind_eq_some_iff.mp H
           obtain ⟨⟨t459, t460, t461, t462, t465⟩, A950, H⟩ := H
           replace H : ((zB.f kj59 t459 t460 t461 t462 t416 t417 t418 t419).bind fun t467 => (if t467 = true then (zc.j2 kj59 t450 (t465 != t422) t431 t432 t433 t451) else (zc.j2 kj59 t450 true t431 t432 t433 t451))) = some r := H
           have A95 := Aside0.mk A950
           clear A950
           have HC96 := Aside0.mk H
           clear H
           have hnb97 := NB438_408.out
           have hnc97 := NB408_438.out
           have hnb98 := NB438_423.out
           have hnc98 := NB423_438.out
           have hnb99 := NB438_430.out
           have hnc99 := NB430_438.out
           have hcz100_0 : wc.cell? ⟨gb438, 0, none⟩ = some (.int .i64 t431) := (zb BK438.out 0).trans rfl
           have hcz100_1 : wc.cell? ⟨gb438, 1, none⟩ = some (.int .i64 t432) := (zb BK438.out 1).trans rfl
           have hcz100_2 : wc.cell? ⟨gb438, 2, none⟩ = some (.int .i64 t433) := (zb BK438.out 2).trans rfl
           have hcz100_3 : wc.cell? ⟨gb438, 3, none⟩ = some (.slice Ao36 t434.length co36) := (zb BK438.out 3).trans rfl
           have hfz100_0 := za BK438.out 0; have hfz100_1 := za BK438.out 1; have hfz100_2 := za BK438.out 2; have hfz100_3 := za BK438.out 3
           go_upto_region 25 with (first | ((with_reducible refine zp (f := 26) rfl ?_); refine zP (some 64) rfl rfl Try.func26 (by kernel_rfl) rfl #[.agg #[.int .i64 t431, .int .i64 t432, .int .i64 t433, .slice Ao36 t434.length co36], .int .i64 1] rfl sqM ?_; (with_reducible refine (qk.calls kj59 t431 t432 t433 (fun k_ => some k_ = (.slice Ao36 t434.length co36 : Value).ownBlock) (.slice Ao36 t434.length co36) t434 1 t450 t451 w _ ?side1 ?side2 A90.out).mono ?_); (case side1 => repeat (first | (with_reducible first | exact HB.out | apply qc | apply z6 | apply zT | refine zO ?_ GE408.out | refine zO ?_ GE423.out | refine zO ?_ GE430.out | refine zO ?_ GE438.out) | exact HB.out)); (case side2 => exact Kd.vJ rfl HO_439003.out); rintro e w101 ⟨rfl, hy0, hb, hkp⟩; refine ⟨_, rfl, ?_⟩; have n0_ := Aside0.mk (Kd.zo (ok' := fun k_ => some k_ ≠ (.slice Ao29 t448.length co29 : Value).ownBlock ∧ some k_ ≠ (.slice Ao36 t434.length co36 : Value).ownBlock) (Kd.Zg (HO_424003.out) hkp (fun k_ hk_ hs_ => by first | exact hk_.2 hs_ | (have e_ : some k_ = _ := hs_; simp only [e_, ne_eq, not_true_eq_false, and_false, false_and] at hk_))) (fun k_ hk_ => by first | exact ⟨hk_.1.1, hk_.1.2⟩ | (refine ⟨?_, ?_⟩ <;> intro e_ <;> simp only [e_, ne_eq, not_true_eq_false, and_false, false_and] at hk_))); have n1_ := Aside0.mk (Kd.zo (ok' := fun k_ => some k_ ≠ (.slice Ao22 t419.length co22 : Value).ownBlock ∧ some k_ ≠ (.slice Ao36 t434.length co36 : Value).ownBlock) (Kd.Zg (HO_431003.out) hkp (fun k_ hk_ hs_ => by first | exact hk_.2 hs_ | (have e_ : some k_ = _ := hs_; simp only [e_, ne_eq, not_true_eq_false, and_false, false_and] at hk_))) (fun k_ hk_ => by first | exact ⟨hk_.1.1, hk_.1.2⟩ | (refine ⟨?_, ?_⟩ <;> intro e_ <;> simp only [e_, ne_eq, not_true_eq_false, and_false, false_and] at hk_))); have n2_ := Aside0.mk (Kd.ZW rfl hy0 (fun k_ e_ => HO_439003.out.1 k_ e_)); have n3_ := Aside0.mk (ja (sqK BK408.out) hkp (fun hs_ => (fun e_ => (Kd.qH HO_439003.out BK408.out (by decide)) e_) hs_)); have n4_ := Aside0.mk (ja (sqK BK423.out) hkp (fun hs_ => (fun e_ => (Kd.qH HO_439003.out BK423.out (by decide)) e_) hs_)); have n5_ := Aside0.mk (ja (sqK BK430.out) hkp (fun hs_ => (fun e_ => (Kd.qH HO_439003.out BK430.out (by decide)) e_) hs_)); have n6_ := Aside0.mk (ja (sqK BK438.out) hkp (fun hs_ => (fun e_ => (Kd.qH HO_439003.out BK438.out (by decide)) e_) hs_)); have n7_ := Aside0.mk (hb); clear HO_424003; clear HO_431003; clear HO_439003; clear BK408; clear BK423; clear BK430; clear BK438; clear HB; have HO_424003 := n0_; have HO_431003 := n1_; have HO_439003 := n2_; have BK408 := n3_; have BK423 := n4_; have BK430 := n5_; have BK438 := n6_; have HB := n7_; clear n0_ n1_ n2_ n3_ n4_ n5_ n6_ n7_; (try clear hb); (try clear hkp); (try clear hy0); have hcz102_0 : w101.cell? ⟨gb438, 0, none⟩ = some (.int .i64 t431) := (zb BK438.out 0).trans rfl; have hcz102_1 : w101.cell? ⟨gb438, 1, none⟩ = some (.int .i64 t432) := (zb BK438.out 1).trans rfl; have hcz102_2 : w101.cell? ⟨gb438, 2, none⟩ = some (.int .i64 t433) := (zb BK438.out 2).trans rfl; have hcz102_3 : w101.cell? ⟨gb438, 3, none⟩ = some (.slice Ao36 t434.length co36) := (zb BK438.out 3).trans rfl; have hfz102_0 := za BK438.out 0; have hfz102_1 := za BK438.out 1; have hfz102_2 := za BK438.out 2; have hfz102_3 := za BK438.out 3) | ((with_reducible refine zp (f := 27) rfl ?_); refine zP (some 67) rfl rfl Try.func27 (by kernel_rfl) rfl #[.agg #[.int .i64 t431, .int .i64 t432, .int .i64 t433, .slice Ao36 t451.length co36], .int .i64 1] rfl (by (try simp only [List.map_toArray, List.map_cons, List.map_nil]); first | done | (rw [show t451.length = t434.length from (Kd.zu HO_439003.out).1.symm] <;> rfl) | rfl | (simp only [List.length_drop, List.length_take]; rfl)) ?_; (with_reducible refine (qz.calls kj59 t431 t432 t433 _ _ t451 1 t452 _ ?side1 ?side2 A91.out).mono ?_); (case side1 => exact sqC (Kd.zu HO_439003.out).2.2); (case side2 => rw [show t451.length = t434.length from (Kd.zu HO_439003.out).1.symm]; exact (Kd.zu HO_439003.out).2.1); rintro e w103 ⟨rfl, hb⟩; refine ⟨_, rfl, ?_⟩; have n0_ := Aside0.mk (Kd.zG (sqR HO_424003.out) hb); have n1_ := Aside0.mk (Kd.zG (sqR HO_431003.out) hb); have n2_ := Aside0.mk (Kd.zG (sqR HO_439003.out) hb); have n3_ := Aside0.mk (ze (g := gb408) (o := .cells #[.int .i64 a0_0, .int .i64 a0_1, .int .i64 a0_2, .slice A0_3 l0_3.length c0_3] 24 (0, 0)) (sqK BK408.out) hb); have n4_ := Aside0.mk (ze (g := gb423) (o := .cells #[.int .i64 t416, .int .i64 t417, .int .i64 t418, .slice Ao22 t419.length co22] 27 (0, 0)) (sqK BK423.out) hb); have n5_ := Aside0.mk (ze (g := gb430) (o := .cells #[.int .i64 t424, .int .i64 t425, .int .i64 t426, .slice Ao29 t448.length co29] 27 (0, 0)) (sqK BK430.out) hb); have n6_ := Aside0.mk (ze (g := gb438) (o := .cells #[.int .i64 t431, .int .i64 t432, .int .i64 t433, .slice Ao36 t434.length co36] 27 (0, 0)) (sqK BK438.out) hb); have n7_ := Aside0.mk (zg sqB hb); clear HO_424003; clear HO_431003; clear HO_439003; clear BK408; clear BK423; clear BK430; clear BK438; clear HB; have HO_424003 := n0_; have HO_431003 := n1_; have HO_439003 := n2_; have BK408 := n3_; have BK423 := n4_; have BK430 := n5_; have BK438 := n6_; have HB := n7_; clear n0_ n1_ n2_ n3_ n4_ n5_ n6_ n7_; (try clear hb); (try clear hb2); (try clear hk); (try clear hi); have hnb104 := NB408_423.out; have hnc104 := NB423_408.out; have hnb105 := NB408_430.out; have hnc105 := NB430_408.out; have hcz106_0 : w103.cell? ⟨gb408, 0, none⟩ = some (.int .i64 a0_0) := (zb BK408.out 0).trans rfl; have hcz106_1 : w103.cell? ⟨gb408, 1, none⟩ = some (.int .i64 a0_1) := (zb BK408.out 1).trans rfl; have hcz106_2 : w103.cell? ⟨gb408, 2, none⟩ = some (.int .i64 a0_2) := (zb BK408.out 2).trans rfl; have hcz106_3 : w103.cell? ⟨gb408, 3, none⟩ = some (.slice A0_3 l0_3.length c0_3) := (zb BK408.out 3).trans rfl; have hfz106_0 := za BK408.out 0; have hfz106_1 := za BK408.out 1; have hfz106_2 := za BK408.out 2; have hfz106_3 := za BK408.out 3) | ((with_reducible refine zp (f := 13) rfl ?_); refine zP (some 75) rfl rfl Try.func13 (by kernel_rfl) rfl #[.agg #[.int .i64 a0_0, .int .i64 a0_1, .int .i64 a0_2, .slice A0_3 l0_3.length c0_3]] rfl sqM ?_; (with_reducible refine (zE.calls kj59 a0_0 a0_1 a0_2 _ _ l0_3 t453 t454 t455 t456 _ ?side1 ?side2 A94.out).mono ?_); (case side1 => exact sqC (Kd.z1 HR0_3.out HB.out)); (case side2 => exact HC0_3.out); rintro e w107 ⟨v457, rfl, ho0, hb⟩; refine ⟨_, rfl, ?_⟩; have n0_ := Aside0.mk (Kd.qg (sqR HO_424003.out) (Kd.qC ho0) hb); have n1_ := Aside0.mk (Kd.qg (sqR HO_431003.out) (Kd.qC ho0) hb); have n2_ := Aside0.mk (Kd.qg (sqR HO_439003.out) (Kd.qC ho0) hb); have n3_ := Aside0.mk (Kd.qo (Kd.qG (Kd.qG (Kd.qG ho0 (Kd.jg (sqR HO_424003.out))) (Kd.jg (sqR HO_431003.out))) (Kd.jg (sqR HO_439003.out))) (zJ sqB)); have n4_ := Aside0.mk (ze (g := gb408) (o := .cells #[.int .i64 a0_0, .int .i64 a0_1, .int .i64 a0_2, .slice A0_3 l0_3.length c0_3] 24 (0, 0)) (sqK BK408.out) hb); have n5_ := Aside0.mk (ze (g := gb423) (o := .cells #[.int .i64 t416, .int .i64 t417, .int .i64 t418, .slice Ao22 t419.length co22] 27 (0, 0)) (sqK BK423.out) hb); have n6_ := Aside0.mk (ze (g := gb430) (o := .cells #[.int .i64 t424, .int .i64 t425, .int .i64 t426, .slice Ao29 t448.length co29] 27 (0, 0)) (sqK BK430.out) hb); have n7_ := Aside0.mk (ze (g := gb438) (o := .cells #[.int .i64 t431, .int .i64 t432, .int .i64 t433, .slice Ao36 t434.length co36] 27 (0, 0)) (sqK BK438.out) hb); have n8_ := Aside0.mk (zg sqB hb); clear HO_424003; clear HO_431003; clear HO_439003; clear BK408; clear BK423; clear BK430; clear BK438; clear HB; have HO_424003 := n0_; have HO_431003 := n1_; have HO_439003 := n2_; have HO458 := n3_; have BK408 := n4_; have BK423 := n5_; have BK430 := n6_; have BK438 := n7_; have HB := n8_; clear n0_ n1_ n2_ n3_ n4_ n5_ n6_ n7_ n8_; (try clear hb); (try clear hb2); (try clear hk); (try clear hi); (try clear ho0); obtain ⟨Ao108, co108, eo108⟩ := Kd.zU HO458.out; subst eo108) | ((with_reducible refine zp (f := 35) rfl ?_); refine zP (some 76) rfl rfl Try.func35 (by kernel_rfl) rfl #[.agg #[.int .i64 t453, .int .i64 t454, .int .i64 t455, .slice Ao108 t456.length co108]] rfl sqM ?_; (with_reducible refine (zm.calls kj59 t453 t454 t455 _ _ t456 t459 t460 t461 t462 t465 _ ?side1 ?side2 A95.out).mono ?_); (case side1 => exact sqC (Kd.zu HO458.out).2.2); (case side2 => exact (Kd.zu HO458.out).2.1); rintro e w109 ⟨v463, rfl, ho0, hb⟩; refine ⟨_, rfl, ?_⟩; have n0_ := Aside0.mk (Kd.qg (sqR HO_424003.out) (Kd.qC ho0) hb); have n1_ := Aside0.mk (Kd.qg (sqR HO_431003.out) (Kd.qC ho0) hb); have n2_ := Aside0.mk (Kd.qg (sqR HO_439003.out) (Kd.qC ho0) hb); have n3_ := Aside0.mk (Kd.qg (sqR HO458.out) (Kd.qC ho0) hb); have n4_ := Aside0.mk (Kd.qo (Kd.qG (Kd.qG (Kd.qG (Kd.qG ho0 (Kd.jg (sqR HO_424003.out))) (Kd.jg (sqR HO_431003.out))) (Kd.jg (sqR HO_439003.out))) (Kd.jg (sqR HO458.out))) (zJ sqB)); have n5_ := Aside0.mk (ze (g := gb408) (o := .cells #[.int .i64 a0_0, .int .i64 a0_1, .int .i64 a0_2, .slice A0_3 l0_3.length c0_3] 24 (0, 0)) (sqK BK408.out) hb); have n6_ := Aside0.mk (ze (g := gb423) (o := .cells #[.int .i64 t416, .int .i64 t417, .int .i64 t418, .slice Ao22 t419.length co22] 27 (0, 0)) (sqK BK423.out) hb); have n7_ := Aside0.mk (ze (g := gb430) (o := .cells #[.int .i64 t424, .int .i64 t425, .int .i64 t426, .slice Ao29 t448.length co29] 27 (0, 0)) (sqK BK430.out) hb); have n8_ := Aside0.mk (ze (g := gb438) (o := .cells #[.int .i64 t431, .int .i64 t432, .int .i64 t433, .slice Ao36 t434.length co36] 27 (0, 0)) (sqK BK438.out) hb); have n9_ := Aside0.mk (zg sqB hb); clear HO_424003; clear HO_431003; clear HO_439003; clear HO458; clear BK408; clear BK423; clear BK430; clear BK438; clear HB; have HO_424003 := n0_; have HO_431003 := n1_; have HO_439003 := n2_; have HO458 := n3_; have HO464 := n4_; have BK408 := n5_; have BK423 := n6_; have BK430 := n7_; have BK438 := n8_; have HB := n9_; clear n0_ n1_ n2_ n3_ n4_ n5_ n6_ n7_ n8_ n9_; (try clear hb); (try clear hb2); (try clear hk); (try clear hi); (try clear ho0)) | ((with_reducible refine zC (N := 12) rfl ?_); refine zD ?hg (N := 12) ?hd (cs := #[.int .i64 0, .int .i64 0, .int .i64 0, .slice none 0 0]) (t := 27) ?hr ?_; (case hd => rfl); (case hg => rfl); (case hr => exact sqG); intro gb466 hg w110 hbox hb; have n0_ := Aside0.mk (Kd.zG (sqR HO_424003.out) hb); have n1_ := Aside0.mk (Kd.zG (sqR HO_431003.out) hb); have n2_ := Aside0.mk (Kd.zG (sqR HO_439003.out) hb); have n3_ := Aside0.mk (Kd.zG (sqR HO458.out) hb); have n4_ := Aside0.mk (Kd.zG (sqR HO464.out) hb); have n5_ := Aside0.mk (ze (g := gb408) (o := .cells #[.int .i64 a0_0, .int .i64 a0_1, .int .i64 a0_2, .slice A0_3 l0_3.length c0_3] 24 (0, 0)) (sqK BK408.out) hb); have n6_ := Aside0.mk (ze (g := gb423) (o := .cells #[.int .i64 t416, .int .i64 t417, .int .i64 t418, .slice Ao22 t419.length co22] 27 (0, 0)) (sqK BK423.out) hb); have n7_ := Aside0.mk (ze (g := gb430) (o := .cells #[.int .i64 t424, .int .i64 t425, .int .i64 t426, .slice Ao29 t448.length co29] 27 (0, 0)) (sqK BK430.out) hb); have n8_ := Aside0.mk (ze (g := gb438) (o := .cells #[.int .i64 t431, .int .i64 t432, .int .i64 t433, .slice Ao36 t434.length co36] 27 (0, 0)) (sqK BK438.out) hb); have n9_ := Aside0.mk (zg sqB hb); have n10_ := Aside0.mk (hbox); have n11_ := Aside0.mk ((sqS hg : w.heap.size ≤ gb466)); have n12_ := Aside0.mk ((sqS hg : w.heap.size ≤ gb466)); have n13_ := Aside0.mk ((by rw [hg]; exact Nat.ne_of_lt (zI (g := gb408) (o := .cells #[.int .i64 a0_0, .int .i64 a0_1, .int .i64 a0_2, .slice A0_3 l0_3.length c0_3] 24 (0, 0)) (sqK BK408.out)) : gb408 ≠ gb466)); have n14_ := Aside0.mk ((by rw [hg]; exact Nat.ne_of_gt (zI (g := gb408) (o := .cells #[.int .i64 a0_0, .int .i64 a0_1, .int .i64 a0_2, .slice A0_3 l0_3.length c0_3] 24 (0, 0)) (sqK BK408.out)) : gb466 ≠ gb408)); have n15_ := Aside0.mk ((by rw [hg]; exact Nat.ne_of_lt (zI (g := gb423) (o := .cells #[.int .i64 t416, .int .i64 t417, .int .i64 t418, .slice Ao22 t419.length co22] 27 (0, 0)) (sqK BK423.out)) : gb423 ≠ gb466)); have n16_ := Aside0.mk ((by rw [hg]; exact Nat.ne_of_gt (zI (g := gb423) (o := .cells #[.int .i64 t416, .int .i64 t417, .int .i64 t418, .slice Ao22 t419.length co22] 27 (0, 0)) (sqK BK423.out)) : gb466 ≠ gb423)); have n17_ := Aside0.mk ((by rw [hg]; exact Nat.ne_of_lt (zI (g := gb430) (o := .cells #[.int .i64 t424, .int .i64 t425, .int .i64 t426, .slice Ao29 t448.length co29] 27 (0, 0)) (sqK BK430.out)) : gb430 ≠ gb466)); have n18_ := Aside0.mk ((by rw [hg]; exact Nat.ne_of_gt (zI (g := gb430) (o := .cells #[.int .i64 t424, .int .i64 t425, .int .i64 t426, .slice Ao29 t448.length co29] 27 (0, 0)) (sqK BK430.out)) : gb466 ≠ gb430)); have n19_ := Aside0.mk ((by rw [hg]; exact Nat.ne_of_lt (zI (g := gb438) (o := .cells #[.int .i64 t431, .int .i64 t432, .int .i64 t433, .slice Ao36 t434.length co36] 27 (0, 0)) (sqK BK438.out)) : gb438 ≠ gb466)); have n20_ := Aside0.mk ((by rw [hg]; exact Nat.ne_of_gt (zI (g := gb438) (o := .cells #[.int .i64 t431, .int .i64 t432, .int .i64 t433, .slice Ao36 t434.length co36] 27 (0, 0)) (sqK BK438.out)) : gb466 ≠ gb438)); clear HO_424003; clear HO_431003; clear HO_439003; clear HO458; clear HO464; clear BK408; clear BK423; clear BK430; clear BK438; clear HB; have HO_424003 := n0_; have HO_431003 := n1_; have HO_439003 := n2_; have HO458 := n3_; have HO464 := n4_; have BK408 := n5_; have BK423 := n6_; have BK430 := n7_; have BK438 := n8_; have HB := n9_; have BK466 := n10_; have GW466 := n11_; have GE466 := n12_; have NB408_466 := n13_; have NB466_408 := n14_; have NB423_466 := n15_; have NB466_423 := n16_; have NB430_466 := n17_; have NB466_430 := n18_; have NB438_466 := n19_; have NB466_438 := n20_; clear n0_ n1_ n2_ n3_ n4_ n5_ n6_ n7_ n8_ n9_ n10_ n11_ n12_ n13_ n14_ n15_ n16_ n17_ n18_ n19_ n20_; clear hb hbox hg; have hnb111 := NB466_408.out; have hnc111 := NB408_466.out; have hnb112 := NB466_423.out; have hnc112 := NB423_466.out; have hnb113 := NB466_430.out; have hnc113 := NB430_466.out; have hnb114 := NB466_438.out; have hnc114 := NB438_466.out; have hcz115_0 : w110.cell? ⟨gb466, 0, none⟩ = some (.int .i64 0) := (zb BK466.out 0).trans rfl; have hcz115_1 : w110.cell? ⟨gb466, 1, none⟩ = some (.int .i64 0) := (zb BK466.out 1).trans rfl; have hcz115_2 : w110.cell? ⟨gb466, 2, none⟩ = some (.int .i64 0) := (zb BK466.out 2).trans rfl; have hcz115_3 : w110.cell? ⟨gb466, 3, none⟩ = some (.slice none 0 0) := (zb BK466.out 3).trans rfl; have hfz115_0 := za BK466.out 0; have hfz115_1 := za BK466.out 1; have hfz115_2 := za BK466.out 2; have hfz115_3 := za BK466.out 3; obtain ⟨Ao116, co116, eo116⟩ := Kd.zU HO464.out; subst eo116))
           (try simp only [Act.put, List.setIfInBounds_toArray, List.set_cons_zero, List.set_cons_succ])
           go_cut [87] (fun v87 wc => ∃ (kq : Nat) (x87_95 : Bool), v87 = .bool x87_95 ∧ Aside0 (zc.j2 kq t450 x87_95 t431 t432 t433 t451 = some r) ∧ Aside0 (kq ≤ kj59) ∧ Aside0 (Kd.R (Kd.int .i64) 3 wc w.heap.size (fun k_ => some k_ ≠ ((.slice Ao29 t448.length co29) : Value).ownBlock ∧ some k_ ≠ ((.slice Ao36 t434.length co36) : Value).ownBlock ∧ some k_ ≠ ((.slice Ao116 t462.length co116) : Value).ownBlock) (.slice Ao22 t419.length co22) t419) ∧ Aside0 (Kd.R (Kd.int .i64) 3 wc w.heap.size (fun k_ => some k_ ≠ ((.slice Ao22 t419.length co22) : Value).ownBlock ∧ some k_ ≠ ((.slice Ao36 t434.length co36) : Value).ownBlock ∧ some k_ ≠ ((.slice Ao116 t462.length co116) : Value).ownBlock) (.slice Ao29 t448.length co29) t448) ∧ Aside0 (Kd.R (Kd.int .i64) 3 wc w.heap.size (fun k_ => some k_ ≠ ((.slice Ao22 t419.length co22) : Value).ownBlock ∧ some k_ ≠ ((.slice Ao29 t448.length co29) : Value).ownBlock ∧ some k_ ≠ ((.slice Ao116 t462.length co116) : Value).ownBlock) (.slice Ao36 t434.length co36) t451) ∧ Aside0 (Kd.R (Kd.int .i64) 3 wc w.heap.size (fun k_ => some k_ ≠ ((.slice Ao22 t419.length co22) : Value).ownBlock ∧ some k_ ≠ ((.slice Ao29 t448.length co29) : Value).ownBlock ∧ some k_ ≠ ((.slice Ao36 t434.length co36) : Value).ownBlock) (.slice Ao116 t462.length co116) t462) ∧ Aside0 (wc.heap[gb408]? = some (.cells #[.int .i64 a0_0, .int .i64 a0_1, .int .i64 a0_2, (.slice A0_3 l0_3.length c0_3)] 24 (0, 0))) ∧ Aside0 (wc.heap[gb423]? = some (.cells #[.int .i64 t416, .int .i64 t417, .int .i64 t418, (.slice Ao22 t419.length co22)] 27 (0, 0))) ∧ Aside0 (wc.heap[gb430]? = some (.cells #[.int .i64 t424, .int .i64 t425, .int .i64 t426, (.slice Ao29 t448.length co29)] 27 (0, 0))) ∧ Aside0 (wc.heap[gb438]? = some (.cells #[.int .i64 t431, .int .i64 t432, .int .i64 t433, (.slice Ao36 t434.length co36)] 27 (0, 0))) ∧ Aside0 (wc.heap[gb466]? = some (.cells #[.int .i64 t459, .int .i64 t460, .int .i64 t461, (.slice Ao116 t462.length co116)] 27 (0, 0))) ∧ Aside0 (Below w.heap.size w wc))
           case first =>
            have H := HC96.out
            clear HC96
            replace H := Option.bind_eq_some_iff.mp H
            obtain ⟨t467, A1170, H⟩ := H
            replace H : (if t467 = true then (zc.j2 kj59 t450 (t465 != t422) t431 t432 t433 t451) else (zc.j2 kj59 t450 true t431 t432 t433 t451)) = some r := H
            have A117 := Aside0.mk A1170
            clear A1170
            by_cases c118 : t467 = true
            ·subst c118
             have H1 : (zc.j2 kj59 t450 (t465 != t422) t431 t432 t433 t451) = some r := by rw [if_pos rfl] at H; exact H
             clear H
             have H := H1
             clear H1
             have H' := Aside0.mk H
             clear H
             have hnb119 := NB466_408.out
             have hnc119 := NB408_466.out
             have hnb120 := NB466_423.out
             have hnc120 := NB423_466.out
             have hnb121 := NB466_430.out
             have hnc121 := NB430_466.out
             have hnb122 := NB466_438.out
             have hnc122 := NB438_466.out
             have hcz123_0 : w110.cell? ⟨gb466, 0, none⟩ = some (.int .i64 0) := (zb BK466.out 0).trans rfl
             have hcz123_1 : w110.cell? ⟨gb466, 1, none⟩ = some (.int .i64 0) := (zb BK466.out 1).trans rfl
             have hcz123_2 : w110.cell? ⟨gb466, 2, none⟩ = some (.int .i64 0) := (zb BK466.out 2).trans rfl
             have hcz123_3 : w110.cell? ⟨gb466, 3, none⟩ = some (.slice none 0 0) := (zb BK466.out 3).trans rfl
             have hfz123_0 := za BK466.out 0; have hfz123_1 := za BK466.out 1; have hfz123_2 := za BK466.out 2; have hfz123_3 := za BK466.out 3
             have hnb124 := NB423_408.out
             have hnc124 := NB408_423.out
             have hnb125 := NB423_430.out
             have hnc125 := NB430_423.out
             have hnb126 := NB423_438.out
             have hnc126 := NB438_423.out
             have hcz127_0 : w110.cell? ⟨gb423, 0, none⟩ = some (.int .i64 t416) := (zb BK423.out 0).trans rfl
             have hcz127_1 : w110.cell? ⟨gb423, 1, none⟩ = some (.int .i64 t417) := (zb BK423.out 1).trans rfl
             have hcz127_2 : w110.cell? ⟨gb423, 2, none⟩ = some (.int .i64 t418) := (zb BK423.out 2).trans rfl
             have hcz127_3 : w110.cell? ⟨gb423, 3, none⟩ = some (.slice Ao22 t419.length co22) := (zb BK423.out 3).trans rfl
             have hfz127_0 := za BK423.out 0; have hfz127_1 := za BK423.out 1; have hfz127_2 := za BK423.out 2; have hfz127_3 := za BK423.out 3
             go_wp2_with (first | ((with_reducible refine zp (f := 15) rfl ?_); refine zP (some 81) rfl rfl Try.func15 (by kernel_rfl) rfl #[.agg #[.int .i64 t459, .int .i64 t460, .int .i64 t461, .slice Ao116 t462.length co116], .agg #[.int .i64 t416, .int .i64 t417, .int .i64 t418, .slice Ao22 t419.length co22]] rfl sqM ?_; (with_reducible refine (zB.calls kj59 t459 t460 t461 _ _ t462 t416 t417 t418 _ _ t419 true _ ?side1 ?side2 ?side3 ?side4 A117.out).mono ?_); (case side1 => refine (Kd.zu (e := 3) (base := w.heap.size) (ok := fun k_ => ((((True ∧ some k_ ≠ (.slice Ao22 t419.length co22 : Value).ownBlock) ∧ some k_ ≠ (.slice Ao29 t448.length co29 : Value).ownBlock) ∧ some k_ ≠ (.slice Ao36 t434.length co36 : Value).ownBlock) ∧ some k_ ≠ (.slice Ao108 t456.length co108 : Value).ownBlock)) (n := t462.length) (c := co116) ?_).2.2; exact (by refine sqR ?_; exact (Kd.zo (Kd.zj (p := ⟨gb466, 3, none⟩) (Kd.zj (p := ⟨gb466, 2, none⟩) (Kd.zj (p := ⟨gb466, 1, none⟩) (Kd.zj (p := ⟨gb466, 0, none⟩) (Kd.zF HO464.out BK466.out (by decide)) (fun _ hk => hk.2) (.int .i64 t459)) (fun _ hk => hk.2) (.int .i64 t460)) (fun _ hk => hk.2) (.int .i64 t461)) (fun _ hk => hk.2) (.slice Ao116 t462.length co116)) (fun _ h_ => h_.1)))); (case side2 => exact (Kd.zu HO464.out).2.1); (case side3 => refine (Kd.zu (e := 3) (base := w.heap.size) (ok := fun k_ => (((some k_ ≠ (.slice Ao29 t448.length co29 : Value).ownBlock ∧ some k_ ≠ (.slice Ao36 t434.length co36 : Value).ownBlock) ∧ some k_ ≠ (.slice Ao108 t456.length co108 : Value).ownBlock) ∧ some k_ ≠ (.slice Ao116 t462.length co116 : Value).ownBlock)) (n := t419.length) (c := co22) ?_).2.2; exact (by refine sqR ?_; exact (Kd.zo (Kd.zj (p := ⟨gb466, 3, none⟩) (Kd.zj (p := ⟨gb466, 2, none⟩) (Kd.zj (p := ⟨gb466, 1, none⟩) (Kd.zj (p := ⟨gb466, 0, none⟩) (Kd.zF HO_424003.out BK466.out (by decide)) (fun _ hk => hk.2) (.int .i64 t459)) (fun _ hk => hk.2) (.int .i64 t460)) (fun _ hk => hk.2) (.int .i64 t461)) (fun _ hk => hk.2) (.slice Ao116 t462.length co116)) (fun _ h_ => h_.1)))); (case side4 => exact (Kd.zu HO_424003.out).2.1); rintro e w128 ⟨rfl, hb⟩; refine ⟨_, rfl, ?_⟩; have n0_ := Aside0.mk (Kd.zG (by refine sqR ?_; exact (Kd.zo (Kd.zj (p := ⟨gb466, 3, none⟩) (Kd.zj (p := ⟨gb466, 2, none⟩) (Kd.zj (p := ⟨gb466, 1, none⟩) (Kd.zj (p := ⟨gb466, 0, none⟩) (Kd.zF HO_424003.out BK466.out (by decide)) (fun _ hk => hk.2) (.int .i64 t459)) (fun _ hk => hk.2) (.int .i64 t460)) (fun _ hk => hk.2) (.int .i64 t461)) (fun _ hk => hk.2) (.slice Ao116 t462.length co116)) (fun _ h_ => h_.1))) hb); have n1_ := Aside0.mk (Kd.zG (by refine sqR ?_; exact (Kd.zo (Kd.zj (p := ⟨gb466, 3, none⟩) (Kd.zj (p := ⟨gb466, 2, none⟩) (Kd.zj (p := ⟨gb466, 1, none⟩) (Kd.zj (p := ⟨gb466, 0, none⟩) (Kd.zF HO_431003.out BK466.out (by decide)) (fun _ hk => hk.2) (.int .i64 t459)) (fun _ hk => hk.2) (.int .i64 t460)) (fun _ hk => hk.2) (.int .i64 t461)) (fun _ hk => hk.2) (.slice Ao116 t462.length co116)) (fun _ h_ => h_.1))) hb); have n2_ := Aside0.mk (Kd.zG (by refine sqR ?_; exact (Kd.zo (Kd.zj (p := ⟨gb466, 3, none⟩) (Kd.zj (p := ⟨gb466, 2, none⟩) (Kd.zj (p := ⟨gb466, 1, none⟩) (Kd.zj (p := ⟨gb466, 0, none⟩) (Kd.zF HO_439003.out BK466.out (by decide)) (fun _ hk => hk.2) (.int .i64 t459)) (fun _ hk => hk.2) (.int .i64 t460)) (fun _ hk => hk.2) (.int .i64 t461)) (fun _ hk => hk.2) (.slice Ao116 t462.length co116)) (fun _ h_ => h_.1))) hb); have n3_ := Aside0.mk (Kd.zG (by refine sqR ?_; exact (Kd.zo (Kd.zj (p := ⟨gb466, 3, none⟩) (Kd.zj (p := ⟨gb466, 2, none⟩) (Kd.zj (p := ⟨gb466, 1, none⟩) (Kd.zj (p := ⟨gb466, 0, none⟩) (Kd.zF HO458.out BK466.out (by decide)) (fun _ hk => hk.2) (.int .i64 t459)) (fun _ hk => hk.2) (.int .i64 t460)) (fun _ hk => hk.2) (.int .i64 t461)) (fun _ hk => hk.2) (.slice Ao116 t462.length co116)) (fun _ h_ => h_.1))) hb); have n4_ := Aside0.mk (Kd.zG (by refine sqR ?_; exact (Kd.zo (Kd.zj (p := ⟨gb466, 3, none⟩) (Kd.zj (p := ⟨gb466, 2, none⟩) (Kd.zj (p := ⟨gb466, 1, none⟩) (Kd.zj (p := ⟨gb466, 0, none⟩) (Kd.zF HO464.out BK466.out (by decide)) (fun _ hk => hk.2) (.int .i64 t459)) (fun _ hk => hk.2) (.int .i64 t460)) (fun _ hk => hk.2) (.int .i64 t461)) (fun _ hk => hk.2) (.slice Ao116 t462.length co116)) (fun _ h_ => h_.1))) hb); have n5_ := Aside0.mk (ze (g := gb408) (o := .cells #[.int .i64 a0_0, .int .i64 a0_1, .int .i64 a0_2, .slice A0_3 l0_3.length c0_3] 24 (0, 0)) (by refine sqK ?_; refine zi ?_ NB408_466.out _; refine sqK ?_; refine zi ?_ NB408_466.out _; refine sqK ?_; refine zi ?_ NB408_466.out _; refine sqK ?_; refine zi ?_ NB408_466.out _; refine sqK ?_; exact BK408.out) hb); have n6_ := Aside0.mk (ze (g := gb423) (o := .cells #[.int .i64 t416, .int .i64 t417, .int .i64 t418, .slice Ao22 t419.length co22] 27 (0, 0)) (by refine sqK ?_; refine zi ?_ NB423_466.out _; refine sqK ?_; refine zi ?_ NB423_466.out _; refine sqK ?_; refine zi ?_ NB423_466.out _; refine sqK ?_; refine zi ?_ NB423_466.out _; refine sqK ?_; exact BK423.out) hb); have n7_ := Aside0.mk (ze (g := gb430) (o := .cells #[.int .i64 t424, .int .i64 t425, .int .i64 t426, .slice Ao29 t448.length co29] 27 (0, 0)) (by refine sqK ?_; refine zi ?_ NB430_466.out _; refine sqK ?_; refine zi ?_ NB430_466.out _; refine sqK ?_; refine zi ?_ NB430_466.out _; refine sqK ?_; refine zi ?_ NB430_466.out _; refine sqK ?_; exact BK430.out) hb); have n8_ := Aside0.mk (ze (g := gb438) (o := .cells #[.int .i64 t431, .int .i64 t432, .int .i64 t433, .slice Ao36 t434.length co36] 27 (0, 0)) (by refine sqK ?_; refine zi ?_ NB438_466.out _; refine sqK ?_; refine zi ?_ NB438_466.out _; refine sqK ?_; refine zi ?_ NB438_466.out _; refine sqK ?_; refine zi ?_ NB438_466.out _; refine sqK ?_; exact BK438.out) hb); have n9_ := Aside0.mk (ze (g := gb466) (o := .cells #[.int .i64 t459, .int .i64 t460, .int .i64 t461, .slice Ao116 t462.length co116] 27 (0, 0)) (by refine sqK ?_; refine zy (cs := #[.int .i64 t459, .int .i64 t460, .int .i64 t461, .slice none 0 0]) ?_ 3 _ rfl; refine sqK ?_; refine zy (cs := #[.int .i64 t459, .int .i64 t460, .int .i64 0, .slice none 0 0]) ?_ 2 _ rfl; refine sqK ?_; refine zy (cs := #[.int .i64 t459, .int .i64 0, .int .i64 0, .slice none 0 0]) ?_ 1 _ rfl; refine sqK ?_; refine zy (cs := #[.int .i64 0, .int .i64 0, .int .i64 0, .slice none 0 0]) ?_ 0 _ rfl; refine sqK ?_; exact BK466.out) hb); have n10_ := Aside0.mk (zg sqB hb); clear HO_424003; clear HO_431003; clear HO_439003; clear HO458; clear HO464; clear BK408; clear BK423; clear BK430; clear BK438; clear BK466; clear HB; have HO_424003 := n0_; have HO_431003 := n1_; have HO_439003 := n2_; have HO458 := n3_; have HO464 := n4_; have BK408 := n5_; have BK423 := n6_; have BK430 := n7_; have BK438 := n8_; have BK466 := n9_; have HB := n10_; clear n0_ n1_ n2_ n3_ n4_ n5_ n6_ n7_ n8_ n9_ n10_; (try clear hb); (try clear hb2); (try clear hk); (try clear hi)))
             go_meet
             case rel => exact ⟨_, ((t465 != t422)), (sqD), H', ⟨by have := HJ10.out; have := HJ59.out; first | omega | exact Nat.le_refl _⟩, ⟨by (try simp only [hl431003_59]); refine sqR ?_; exact Kd.zo HO_424003.out (fun _ hk => by first | exact ⟨hk.1.1.1, ⟨hk.1.1.2, hk.2⟩⟩ | (refine ⟨?_, ?_, ?_⟩ <;> intro e_ <;> simp only [e_, ne_eq, not_true_eq_false, and_false, false_and] at hk))⟩, ⟨by (try simp only [hl431003_59]); refine sqR ?_; exact Kd.zo HO_431003.out (fun _ hk => by first | exact ⟨hk.1.1.1, ⟨hk.1.1.2, hk.2⟩⟩ | (refine ⟨?_, ?_, ?_⟩ <;> intro e_ <;> simp only [e_, ne_eq, not_true_eq_false, and_false, false_and] at hk))⟩, ⟨by (try simp only [hl431003_59]); refine sqR ?_; exact Kd.zo HO_439003.out (fun _ hk => by first | exact ⟨hk.1.1.1, ⟨hk.1.1.2, hk.2⟩⟩ | (refine ⟨?_, ?_, ?_⟩ <;> intro e_ <;> simp only [e_, ne_eq, not_true_eq_false, and_false, false_and] at hk))⟩, ⟨by (try simp only [hl431003_59]); refine sqR ?_; exact Kd.zo HO464.out (fun _ hk => by first | exact ⟨hk.1.1.1.2, ⟨hk.1.1.2, hk.1.2⟩⟩ | (refine ⟨?_, ?_, ?_⟩ <;> intro e_ <;> simp only [e_, ne_eq, not_true_eq_false, and_false, false_and] at hk))⟩, ⟨by (try simp only [hl431003_59]); refine sqK ?_; exact BK408.out⟩, ⟨by (try simp only [hl431003_59]); refine sqK ?_; exact BK423.out⟩, ⟨by (try simp only [hl431003_59]); refine sqK ?_; exact BK430.out⟩, ⟨by (try simp only [hl431003_59]); refine sqK ?_; exact BK438.out⟩, ⟨by (try simp only [hl431003_59]); refine sqK ?_; exact BK466.out⟩, ⟨sqB⟩⟩
            ·replace c118 := Bool.eq_false_iff.mpr c118
             subst c118
             have H1 : (zc.j2 kj59 t450 true t431 t432 t433 t451) = some r := by rw [if_neg (show ¬ (false = true) by decide)] at H; exact H
             clear H
             have H := H1
             clear H1
             have H' := Aside0.mk H
             clear H
             have hnb129 := NB466_408.out
             have hnc129 := NB408_466.out
             have hnb130 := NB466_423.out
             have hnc130 := NB423_466.out
             have hnb131 := NB466_430.out
             have hnc131 := NB430_466.out
             have hnb132 := NB466_438.out
             have hnc132 := NB438_466.out
             have hcz133_0 : w110.cell? ⟨gb466, 0, none⟩ = some (.int .i64 0) := (zb BK466.out 0).trans rfl
             have hcz133_1 : w110.cell? ⟨gb466, 1, none⟩ = some (.int .i64 0) := (zb BK466.out 1).trans rfl
             have hcz133_2 : w110.cell? ⟨gb466, 2, none⟩ = some (.int .i64 0) := (zb BK466.out 2).trans rfl
             have hcz133_3 : w110.cell? ⟨gb466, 3, none⟩ = some (.slice none 0 0) := (zb BK466.out 3).trans rfl
             have hfz133_0 := za BK466.out 0; have hfz133_1 := za BK466.out 1; have hfz133_2 := za BK466.out 2; have hfz133_3 := za BK466.out 3
             have hnb134 := NB423_408.out
             have hnc134 := NB408_423.out
             have hnb135 := NB423_430.out
             have hnc135 := NB430_423.out
             have hnb136 := NB423_438.out
             have hnc136 := NB438_423.out
             have hcz137_0 : w110.cell? ⟨gb423, 0, none⟩ = some (.int .i64 t416) := (zb BK423.out 0).trans rfl
             have hcz137_1 : w110.cell? ⟨gb423, 1, none⟩ = some (.int .i64 t417) := (zb BK423.out 1).trans rfl
             have hcz137_2 : w110.cell? ⟨gb423, 2, none⟩ = some (.int .i64 t418) := (zb BK423.out 2).trans rfl
             have hcz137_3 : w110.cell? ⟨gb423, 3, none⟩ = some (.slice Ao22 t419.length co22) := (zb BK423.out 3).trans rfl
             have hfz137_0 := za BK423.out 0; have hfz137_1 := za BK423.out 1; have hfz137_2 := za BK423.out 2; have hfz137_3 := za BK423.out 3
             go_wp2_with (first | ((with_reducible refine zp (f := 15) rfl ?_); refine zP (some 81) rfl rfl Try.func15 (by kernel_rfl) rfl #[.agg #[.int .i64 t459, .int .i64 t460, .int .i64 t461, .slice Ao116 t462.length co116], .agg #[.int .i64 t416, .int .i64 t417, .int .i64 t418, .slice Ao22 t419.length co22]] rfl sqM ?_; (with_reducible refine (zB.calls kj59 t459 t460 t461 _ _ t462 t416 t417 t418 _ _ t419 false _ ?side1 ?side2 ?side3 ?side4 A117.out).mono ?_); (case side1 => refine (Kd.zu (e := 3) (base := w.heap.size) (ok := fun k_ => ((((True ∧ some k_ ≠ (.slice Ao22 t419.length co22 : Value).ownBlock) ∧ some k_ ≠ (.slice Ao29 t448.length co29 : Value).ownBlock) ∧ some k_ ≠ (.slice Ao36 t434.length co36 : Value).ownBlock) ∧ some k_ ≠ (.slice Ao108 t456.length co108 : Value).ownBlock)) (n := t462.length) (c := co116) ?_).2.2; exact (by refine sqR ?_; exact (Kd.zo (Kd.zj (p := ⟨gb466, 3, none⟩) (Kd.zj (p := ⟨gb466, 2, none⟩) (Kd.zj (p := ⟨gb466, 1, none⟩) (Kd.zj (p := ⟨gb466, 0, none⟩) (Kd.zF HO464.out BK466.out (by decide)) (fun _ hk => hk.2) (.int .i64 t459)) (fun _ hk => hk.2) (.int .i64 t460)) (fun _ hk => hk.2) (.int .i64 t461)) (fun _ hk => hk.2) (.slice Ao116 t462.length co116)) (fun _ h_ => h_.1)))); (case side2 => exact (Kd.zu HO464.out).2.1); (case side3 => refine (Kd.zu (e := 3) (base := w.heap.size) (ok := fun k_ => (((some k_ ≠ (.slice Ao29 t448.length co29 : Value).ownBlock ∧ some k_ ≠ (.slice Ao36 t434.length co36 : Value).ownBlock) ∧ some k_ ≠ (.slice Ao108 t456.length co108 : Value).ownBlock) ∧ some k_ ≠ (.slice Ao116 t462.length co116 : Value).ownBlock)) (n := t419.length) (c := co22) ?_).2.2; exact (by refine sqR ?_; exact (Kd.zo (Kd.zj (p := ⟨gb466, 3, none⟩) (Kd.zj (p := ⟨gb466, 2, none⟩) (Kd.zj (p := ⟨gb466, 1, none⟩) (Kd.zj (p := ⟨gb466, 0, none⟩) (Kd.zF HO_424003.out BK466.out (by decide)) (fun _ hk => hk.2) (.int .i64 t459)) (fun _ hk => hk.2) (.int .i64 t460)) (fun _ hk => hk.2) (.int .i64 t461)) (fun _ hk => hk.2) (.slice Ao116 t462.length co116)) (fun _ h_ => h_.1)))); (case side4 => exact (Kd.zu HO_424003.out).2.1); rintro e w138 ⟨rfl, hb⟩; refine ⟨_, rfl, ?_⟩; have n0_ := Aside0.mk (Kd.zG (by refine sqR ?_; exact (Kd.zo (Kd.zj (p := ⟨gb466, 3, none⟩) (Kd.zj (p := ⟨gb466, 2, none⟩) (Kd.zj (p := ⟨gb466, 1, none⟩) (Kd.zj (p := ⟨gb466, 0, none⟩) (Kd.zF HO_424003.out BK466.out (by decide)) (fun _ hk => hk.2) (.int .i64 t459)) (fun _ hk => hk.2) (.int .i64 t460)) (fun _ hk => hk.2) (.int .i64 t461)) (fun _ hk => hk.2) (.slice Ao116 t462.length co116)) (fun _ h_ => h_.1))) hb); have n1_ := Aside0.mk (Kd.zG (by refine sqR ?_; exact (Kd.zo (Kd.zj (p := ⟨gb466, 3, none⟩) (Kd.zj (p := ⟨gb466, 2, none⟩) (Kd.zj (p := ⟨gb466, 1, none⟩) (Kd.zj (p := ⟨gb466, 0, none⟩) (Kd.zF HO_431003.out BK466.out (by decide)) (fun _ hk => hk.2) (.int .i64 t459)) (fun _ hk => hk.2) (.int .i64 t460)) (fun _ hk => hk.2) (.int .i64 t461)) (fun _ hk => hk.2) (.slice Ao116 t462.length co116)) (fun _ h_ => h_.1))) hb); have n2_ := Aside0.mk (Kd.zG (by refine sqR ?_; exact (Kd.zo (Kd.zj (p := ⟨gb466, 3, none⟩) (Kd.zj (p := ⟨gb466, 2, none⟩) (Kd.zj (p := ⟨gb466, 1, none⟩) (Kd.zj (p := ⟨gb466, 0, none⟩) (Kd.zF HO_439003.out BK466.out (by decide)) (fun _ hk => hk.2) (.int .i64 t459)) (fun _ hk => hk.2) (.int .i64 t460)) (fun _ hk => hk.2) (.int .i64 t461)) (fun _ hk => hk.2) (.slice Ao116 t462.length co116)) (fun _ h_ => h_.1))) hb); have n3_ := Aside0.mk (Kd.zG (by refine sqR ?_; exact (Kd.zo (Kd.zj (p := ⟨gb466, 3, none⟩) (Kd.zj (p := ⟨gb466, 2, none⟩) (Kd.zj (p := ⟨gb466, 1, none⟩) (Kd.zj (p := ⟨gb466, 0, none⟩) (Kd.zF HO458.out BK466.out (by decide)) (fun _ hk => hk.2) (.int .i64 t459)) (fun _ hk => hk.2) (.int .i64 t460)) (fun _ hk => hk.2) (.int .i64 t461)) (fun _ hk => hk.2) (.slice Ao116 t462.length co116)) (fun _ h_ => h_.1))) hb); have n4_ := Aside0.mk (Kd.zG (by refine sqR ?_; exact (Kd.zo (Kd.zj (p := ⟨gb466, 3, none⟩) (Kd.zj (p := ⟨gb466, 2, none⟩) (Kd.zj (p := ⟨gb466, 1, none⟩) (Kd.zj (p := ⟨gb466, 0, none⟩) (Kd.zF HO464.out BK466.out (by decide)) (fun _ hk => hk.2) (.int .i64 t459)) (fun _ hk => hk.2) (.int .i64 t460)) (fun _ hk => hk.2) (.int .i64 t461)) (fun _ hk => hk.2) (.slice Ao116 t462.length co116)) (fun _ h_ => h_.1))) hb); have n5_ := Aside0.mk (ze (g := gb408) (o := .cells #[.int .i64 a0_0, .int .i64 a0_1, .int .i64 a0_2, .slice A0_3 l0_3.length c0_3] 24 (0, 0)) (by refine sqK ?_; refine zi ?_ NB408_466.out _; refine sqK ?_; refine zi ?_ NB408_466.out _; refine sqK ?_; refine zi ?_ NB408_466.out _; refine sqK ?_; refine zi ?_ NB408_466.out _; refine sqK ?_; exact BK408.out) hb); have n6_ := Aside0.mk (ze (g := gb423) (o := .cells #[.int .i64 t416, .int .i64 t417, .int .i64 t418, .slice Ao22 t419.length co22] 27 (0, 0)) (by refine sqK ?_; refine zi ?_ NB423_466.out _; refine sqK ?_; refine zi ?_ NB423_466.out _; refine sqK ?_; refine zi ?_ NB423_466.out _; refine sqK ?_; refine zi ?_ NB423_466.out _; refine sqK ?_; exact BK423.out) hb); have n7_ := Aside0.mk (ze (g := gb430) (o := .cells #[.int .i64 t424, .int .i64 t425, .int .i64 t426, .slice Ao29 t448.length co29] 27 (0, 0)) (by refine sqK ?_; refine zi ?_ NB430_466.out _; refine sqK ?_; refine zi ?_ NB430_466.out _; refine sqK ?_; refine zi ?_ NB430_466.out _; refine sqK ?_; refine zi ?_ NB430_466.out _; refine sqK ?_; exact BK430.out) hb); have n8_ := Aside0.mk (ze (g := gb438) (o := .cells #[.int .i64 t431, .int .i64 t432, .int .i64 t433, .slice Ao36 t434.length co36] 27 (0, 0)) (by refine sqK ?_; refine zi ?_ NB438_466.out _; refine sqK ?_; refine zi ?_ NB438_466.out _; refine sqK ?_; refine zi ?_ NB438_466.out _; refine sqK ?_; refine zi ?_ NB438_466.out _; refine sqK ?_; exact BK438.out) hb); have n9_ := Aside0.mk (ze (g := gb466) (o := .cells #[.int .i64 t459, .int .i64 t460, .int .i64 t461, .slice Ao116 t462.length co116] 27 (0, 0)) (by refine sqK ?_; refine zy (cs := #[.int .i64 t459, .int .i64 t460, .int .i64 t461, .slice none 0 0]) ?_ 3 _ rfl; refine sqK ?_; refine zy (cs := #[.int .i64 t459, .int .i64 t460, .int .i64 0, .slice none 0 0]) ?_ 2 _ rfl; refine sqK ?_; refine zy (cs := #[.int .i64 t459, .int .i64 0, .int .i64 0, .slice none 0 0]) ?_ 1 _ rfl; refine sqK ?_; refine zy (cs := #[.int .i64 0, .int .i64 0, .int .i64 0, .slice none 0 0]) ?_ 0 _ rfl; refine sqK ?_; exact BK466.out) hb); have n10_ := Aside0.mk (zg sqB hb); clear HO_424003; clear HO_431003; clear HO_439003; clear HO458; clear HO464; clear BK408; clear BK423; clear BK430; clear BK438; clear BK466; clear HB; have HO_424003 := n0_; have HO_431003 := n1_; have HO_439003 := n2_; have HO458 := n3_; have HO464 := n4_; have BK408 := n5_; have BK423 := n6_; have BK430 := n7_; have BK438 := n8_; have BK466 := n9_; have HB := n10_; clear n0_ n1_ n2_ n3_ n4_ n5_ n6_ n7_ n8_ n9_ n10_; (try clear hb); (try clear hb2); (try clear hk); (try clear hi)))
             go_meet
             case rel => exact ⟨_, (true), (sqD), H', ⟨by have := HJ10.out; have := HJ59.out; first | omega | exact Nat.le_refl _⟩, ⟨by (try simp only [hl431003_59]); refine sqR ?_; exact Kd.zo HO_424003.out (fun _ hk => by first | exact ⟨hk.1.1.1, ⟨hk.1.1.2, hk.2⟩⟩ | (refine ⟨?_, ?_, ?_⟩ <;> intro e_ <;> simp only [e_, ne_eq, not_true_eq_false, and_false, false_and] at hk))⟩, ⟨by (try simp only [hl431003_59]); refine sqR ?_; exact Kd.zo HO_431003.out (fun _ hk => by first | exact ⟨hk.1.1.1, ⟨hk.1.1.2, hk.2⟩⟩ | (refine ⟨?_, ?_, ?_⟩ <;> intro e_ <;> simp only [e_, ne_eq, not_true_eq_false, and_false, false_and] at hk))⟩, ⟨by (try simp only [hl431003_59]); refine sqR ?_; exact Kd.zo HO_439003.out (fun _ hk => by first | exact ⟨hk.1.1.1, ⟨hk.1.1.2, hk.2⟩⟩ | (refine ⟨?_, ?_, ?_⟩ <;> intro e_ <;> simp only [e_, ne_eq, not_true_eq_false, and_false, false_and] at hk))⟩, ⟨by (try simp only [hl431003_59]); refine sqR ?_; exact Kd.zo HO464.out (fun _ hk => by first | exact ⟨hk.1.1.1.2, ⟨hk.1.1.2, hk.1.2⟩⟩ | (refine ⟨?_, ?_, ?_⟩ <;> intro e_ <;> simp only [e_, ne_eq, not_true_eq_false, and_false, false_and] at hk))⟩, ⟨by (try simp only [hl431003_59]); refine sqK ?_; exact BK408.out⟩, ⟨by (try simp only [hl431003_59]); refine sqK ?_; exact BK423.out⟩, ⟨by (try simp only [hl431003_59]); refine sqK ?_; exact BK430.out⟩, ⟨by (try simp only [hl431003_59]); refine sqK ?_; exact BK438.out⟩, ⟨by (try simp only [hl431003_59]); refine sqK ?_; exact BK466.out⟩, ⟨sqB⟩⟩
           case rest =>
            clear HC96
            try clear c1
            try clear c2
            try clear p2
            try clear c3
            try clear c3b0
            try clear c4
            try clear c5
            try clear c6
            try clear c7
            try clear c8
            try clear c9
            try clear c10
            try clear c11
            try clear c12
            try clear c13
            try clear c15
            try clear c20
            try clear c26
            try clear c27
            try clear c32
            try clear c33
            try clear c34
            try clear c35
            try clear c38
            try clear c39
            try clear c40
            try clear c41
            try clear c43
            try clear c44
            try clear c47
            try clear c48
            try clear c49
            try clear c51
            try clear c52
            try clear c55
            try clear c58
            try clear c65
            try clear c66
            try clear c67
            try clear c70
            try clear c70b0
            try clear c72
            try clear c73
            try clear c74
            try clear c75
            try clear c77
            try clear c78
            try clear c81
            try clear c82
            try clear c83
            try clear c85
            try clear c86
            try clear c89
            try clear c92
            try clear c92b0
            try clear c93
            try clear c93b0
            try clear c93b1
            try clear c97
            try clear c98
            try clear c99
            try clear c104
            try clear c105
            try clear c111
            try clear c112
            try clear c113
            try clear c114
            try clear c118
            try clear c119
            try clear c120
            try clear c121
            try clear c122
            try clear c124
            try clear c125
            try clear c126
            try clear c129
            try clear c130
            try clear c131
            try clear c132
            try clear c134
            try clear c135
            try clear c136
            try clear hcz100_0
            try clear hcz100_1
            try clear hcz100_2
            try clear hcz100_3
            try clear hcz102_0
            try clear hcz102_1
            try clear hcz102_2
            try clear hcz102_3
            try clear hcz106_0
            try clear hcz106_1
            try clear hcz106_2
            try clear hcz106_3
            try clear hcz115_0
            try clear hcz115_1
            try clear hcz115_2
            try clear hcz115_3
            try clear hcz123_0
            try clear hcz123_1
            try clear hcz123_2
            try clear hcz123_3
            try clear hcz127_0
            try clear hcz127_1
            try clear hcz127_2
            try clear hcz127_3
            try clear hcz133_0
            try clear hcz133_1
            try clear hcz133_2
            try clear hcz133_3
            try clear hcz137_0
            try clear hcz137_1
            try clear hcz137_2
            try clear hcz137_3
            try clear hcz13_0
            try clear hcz13_1
            try clear hcz13_2
            try clear hcz13_3
            try clear hcz15_0
            try clear hcz15_1
            try clear hcz15_2
            try clear hcz15_3
            try clear hcz21_0
            try clear hcz21_1
            try clear hcz21_2
            try clear hcz21_3
            try clear hcz23_0
            try clear hcz23_1
            try clear hcz23_2
            try clear hcz23_3
            try clear hcz28_0
            try clear hcz28_1
            try clear hcz28_2
            try clear hcz28_3
            try clear hcz35_0
            try clear hcz35_1
            try clear hcz35_2
            try clear hcz35_3
            try clear hcz42_0
            try clear hcz42_1
            try clear hcz42_2
            try clear hcz42_3
            try clear hcz45_0
            try clear hcz45_1
            try clear hcz45_2
            try clear hcz45_3
            try clear hcz50_0
            try clear hcz50_1
            try clear hcz50_2
            try clear hcz50_3
            try clear hcz53_0
            try clear hcz53_1
            try clear hcz53_2
            try clear hcz53_3
            try clear hcz5_0
            try clear hcz5_1
            try clear hcz5_2
            try clear hcz5_3
            try clear hcz68_0
            try clear hcz68_1
            try clear hcz68_2
            try clear hcz68_3
            try clear hcz76_0
            try clear hcz76_1
            try clear hcz76_2
            try clear hcz76_3
            try clear hcz79_0
            try clear hcz79_1
            try clear hcz79_2
            try clear hcz79_3
            try clear hcz84_0
            try clear hcz84_1
            try clear hcz84_2
            try clear hcz84_3
            try clear hcz87_0
            try clear hcz87_1
            try clear hcz87_2
            try clear hcz87_3
            try clear hfz100_0
            try clear hfz100_1
            try clear hfz100_2
            try clear hfz100_3
            try clear hfz102_0
            try clear hfz102_1
            try clear hfz102_2
            try clear hfz102_3
            try clear hfz106_0
            try clear hfz106_1
            try clear hfz106_2
            try clear hfz106_3
            try clear hfz115_0
            try clear hfz115_1
            try clear hfz115_2
            try clear hfz115_3
            try clear hfz123_0
            try clear hfz123_1
            try clear hfz123_2
            try clear hfz123_3
            try clear hfz127_0
            try clear hfz127_1
            try clear hfz127_2
            try clear hfz127_3
            try clear hfz133_0
            try clear hfz133_1
            try clear hfz133_2
            try clear hfz133_3
            try clear hfz137_0
            try clear hfz137_1
            try clear hfz137_2
            try clear hfz137_3
            try clear hfz13_0
            try clear hfz13_1
            try clear hfz13_2
            try clear hfz13_3
            try clear hfz15_0
            try clear hfz15_1
            try clear hfz15_2
            try clear hfz15_3
            try clear hfz21_0
            try clear hfz21_1
            try clear hfz21_2
            try clear hfz21_3
            try clear hfz23_0
            try clear hfz23_1
            try clear hfz23_2
            try clear hfz23_3
            try clear hfz28_0
            try clear hfz28_1
            try clear hfz28_2
            try clear hfz28_3
            try clear hfz35_0
            try clear hfz35_1
            try clear hfz35_2
            try clear hfz35_3
            try clear hfz42_0
            try clear hfz42_1
            try clear hfz42_2
            try clear hfz42_3
            try clear hfz45_0
            try clear hfz45_1
            try clear hfz45_2
            try clear hfz45_3
            try clear hfz50_0
            try clear hfz50_1
            try clear hfz50_2
            try clear hfz50_3
            try clear hfz53_0
            try clear hfz53_1
            try clear hfz53_2
            try clear hfz53_3
            try clear hfz5_0
            try clear hfz5_1
            try clear hfz5_2
            try clear hfz5_3
            try clear hfz68_0
            try clear hfz68_1
            try clear hfz68_2
            try clear hfz68_3
            try clear hfz76_0
            try clear hfz76_1
            try clear hfz76_2
            try clear hfz76_3
            try clear hfz79_0
            try clear hfz79_1
            try clear hfz79_2
            try clear hfz79_3
            try clear hfz84_0
            try clear hfz84_1
            try clear hfz84_2
            try clear hfz84_3
            try clear hfz87_0
            try clear hfz87_1
            try clear hfz87_2
            try clear hfz87_3
            try clear p2
            obtain ⟨kq, x87_95, rfl, HA, HJ95, HO_424003, HO_431003, HO_439003, HO_467003, BK408, BK423, BK430, BK438, BK466, HB⟩ := hcut
            have hl439003_95 := (Kd.zu HO_439003.out).1
            rw [hl439003_95] at HO_439003
            (try simp only [hl439003_95])
            (try simp only [hl439003_95] at BK408)
            (try simp only [hl439003_95] at BK423)
            (try simp only [hl439003_95] at BK430)
            (try simp only [hl439003_95] at BK438)
            (try simp only [hl439003_95] at BK466)
            (try simp only [hl439003_95] at HO_424003)
            (try simp only [hl439003_95] at HO_431003)
            (try simp only [hl439003_95] at HO_467003)
            cases kq with
            | zero => exact absurd HA.out (by simp [zc.j2])
            | succ kj95 =>
             have H := HA.out
             clear HA
             simp only [zc.j2] at H
             by_cases c139 : x87_95 = true
             ·subst c139
              have H1 : (none) = some r := by rw [if_pos rfl] at H; exact H
              clear H
              have H := H1
              clear H1
              exact absurd H (by simp)
             ·replace c139 := Bool.eq_false_iff.mpr c139
              subst c139
              have H1 : ((qz.f kj95 t431 t432 t433 t451 1).bind fun t468 => (if t468 < 0 then (none) else (if t468 = t450 then (some true) else (none)))) = some r := by rw [if_neg (show ¬ (false = true) by decide)] at H; exact H
              clear H
              have H := H1
              clear H1
              replace H := Option.bind_eq_some_iff.mp H
              obtain ⟨t468, A1400, H⟩ := H
              replace H : (if t468 < 0 then (none) else (if t468 = t450 then (some true) else (none))) = some r := H
              have A140 := Aside0.mk A1400
              clear A1400
              by_cases c141 : t468 < 0
              ·rw [if_pos c141] at H
               exact absurd H (by simp)
              ·rw [if_neg c141] at H
               have c141b0 : decide (t468 < 0) = false := decide_eq_false c141
               clear c141
               by_cases c142 : t468 = t450
               ·rw [if_pos c142] at H
                have c142b0 : (t468 == t450) = true := beq_iff_eq.mpr c142
                have c142b1 : (t468 != t450) = false := bne_eq_false_iff_eq.mpr c142
                clear c142
                obtain rfl := Option.some.inj H
                have hnb143 := NB438_408.out
                have hnc143 := NB408_438.out
                have hnb144 := NB438_423.out
                have hnc144 := NB423_438.out
                have hnb145 := NB438_430.out
                have hnc145 := NB430_438.out
                have hnb146 := NB438_466.out
                have hnc146 := NB466_438.out
                have hcz147_0 : wc.cell? ⟨gb438, 0, none⟩ = some (.int .i64 t431) := (zb BK438.out 0).trans rfl
                have hcz147_1 : wc.cell? ⟨gb438, 1, none⟩ = some (.int .i64 t432) := (zb BK438.out 1).trans rfl
                have hcz147_2 : wc.cell? ⟨gb438, 2, none⟩ = some (.int .i64 t433) := (zb BK438.out 2).trans rfl
                have hcz147_3 : wc.cell? ⟨gb438, 3, none⟩ = some (.slice Ao36 t451.length co36) := (zb BK438.out 3).trans rfl
                have hfz147_0 := za BK438.out 0; have hfz147_1 := za BK438.out 1; have hfz147_2 := za BK438.out 2; have hfz147_3 := za BK438.out 3
                go_wp2_with (first | ((with_reducible refine zp (f := 27) rfl ?_); refine zP (some 90) rfl rfl Try.func27 (by kernel_rfl) rfl #[.agg #[.int .i64 t431, .int .i64 t432, .int .i64 t433, .slice Ao36 t451.length co36], .int .i64 1] rfl sqM ?_; (with_reducible refine (qz.calls kj95 t431 t432 t433 _ _ t451 1 t468 _ ?side1 ?side2 A140.out).mono ?_); (case side1 => exact sqC (Kd.zu HO_439003.out).2.2); (case side2 => exact (Kd.zu HO_439003.out).2.1); rintro e w148 ⟨rfl, hb⟩; refine ⟨_, rfl, ?_⟩; have n0_ := Aside0.mk (Kd.zG (sqR HO_424003.out) hb); have n1_ := Aside0.mk (Kd.zG (sqR HO_431003.out) hb); have n2_ := Aside0.mk (Kd.zG (sqR HO_439003.out) hb); have n3_ := Aside0.mk (Kd.zG (sqR HO_467003.out) hb); have n4_ := Aside0.mk (ze (g := gb408) (o := .cells #[.int .i64 a0_0, .int .i64 a0_1, .int .i64 a0_2, .slice A0_3 l0_3.length c0_3] 24 (0, 0)) (sqK BK408.out) hb); have n5_ := Aside0.mk (ze (g := gb423) (o := .cells #[.int .i64 t416, .int .i64 t417, .int .i64 t418, .slice Ao22 t419.length co22] 27 (0, 0)) (sqK BK423.out) hb); have n6_ := Aside0.mk (ze (g := gb430) (o := .cells #[.int .i64 t424, .int .i64 t425, .int .i64 t426, .slice Ao29 t448.length co29] 27 (0, 0)) (sqK BK430.out) hb); have n7_ := Aside0.mk (ze (g := gb438) (o := .cells #[.int .i64 t431, .int .i64 t432, .int .i64 t433, .slice Ao36 t451.length co36] 27 (0, 0)) (sqK BK438.out) hb); have n8_ := Aside0.mk (ze (g := gb466) (o := .cells #[.int .i64 t459, .int .i64 t460, .int .i64 t461, .slice Ao116 t462.length co116] 27 (0, 0)) (sqK BK466.out) hb); have n9_ := Aside0.mk (zg sqB hb); clear HO_424003; clear HO_431003; clear HO_439003; clear HO_467003; clear BK408; clear BK423; clear BK430; clear BK438; clear BK466; clear HB; have HO_424003 := n0_; have HO_431003 := n1_; have HO_439003 := n2_; have HO_467003 := n3_; have BK408 := n4_; have BK423 := n5_; have BK430 := n6_; have BK438 := n7_; have BK466 := n8_; have HB := n9_; clear n0_ n1_ n2_ n3_ n4_ n5_ n6_ n7_ n8_ n9_; (try clear hb); (try clear hb2); (try clear hk); (try clear hi)))
                go_ret
                exact ⟨sqE, sqB⟩
               ·rw [if_neg c142] at H
                exact absurd H (by simp)
          ·rw [if_neg c93] at H
           exact absurd H (by simp)
     ·replace c58 := Bool.eq_false_iff.mpr c58
      subst c58
      have H1 : (none) = some r := by rw [if_neg (show ¬ (false = true) by decide)] at H; exact H
      clear H
      have H := H1
      clear H1
      exact absurd H (by simp)

end Go.Proofs.Ytopkfhnnapncgaa.F
end
section
namespace Go.Proofs.Ytopkfhnnapncgaa.Mt
def sdiff (a b : Nat) : Nat := a ^^^ (a &&& b)
theorem qR (a b i : Nat) : (sdiff a b).testBit i = (a.testBit i && !b.testBit i) := by
  simp [sdiff, Nat.testBit_xor, Nat.testBit_and]; cases a.testBit i <;> cases b.testBit i <;> rfl
def elems (s : Nat) : List Nat := (List.range 8).filter s.testBit
theorem Qs {s e : Nat} : e ∈ elems s ↔ e < 8 ∧ s.testBit e = true := by simp [elems]
end Go.Proofs.Ytopkfhnnapncgaa.Mt
end
section
namespace Go.Proofs.Ytopkfhnnapncgaa.Bits
open Go.Proofs.Ytopkfhnnapncgaa.Mt (sdiff qR)
open Go.RowKit Go.Proofs.YtopkfhnnapncgaaW.PrintWords Go.Proofs.YtopkfhnnapncgaaW.PrintLast Go.Proofs.YtopkfhnnapncgaaW.PrintMore

theorem jh {n : Int} (h0 : -9223372036854775808 ≤ n) (h1 : n < 9223372036854775808) : wrap64 n = n := by unfold wrap64; omega
end Go.Proofs.Ytopkfhnnapncgaa.Bits
end
section
namespace Go.Proofs.Ytopkfhnnapncgaa.L
open Go.RowKit Go.Proofs.YtopkfhnnapncgaaW.PrintWords Go.Proofs.YtopkfhnnapncgaaW.PrintLast Go.Proofs.YtopkfhnnapncgaaW.PrintMore
open Go.Proofs.Ytopkfhnnapncgaa.Bits

theorem Ev.succ {α : Type} {g : Nat → Option α} {r : α} (h : Ev (fun k => g (k + 1)) r) : Ev g r := Ev.step (fun _ => rfl) h
theorem Ev.some {α : Type} {r s : α} (h : r = s) : Ev (fun _ => Option.some r) s := h ▸ Ev.now r
theorem zY {i : Nat} (h : i < 9223372036854775807) : wrap64 ((i : Int) + 1) = ((i + 1 : Nat) : Int) := jh (by omega) (by omega)

/-- A loop that asks of all places, and says no at the first that fails. -/
theorem Jf (L : Nat → Int → Option Bool) (n : Nat) (p : Nat → Bool) (hend : ∀ k, L (k + 1) (n : Int) = some true)
    (hstep : ∀ i, i < n → ∀ k, L (k + 1) (i : Int) = if p i = true then L k ((i + 1 : Nat) : Int) else some false) :
    ∀ d i, i + d = n → Ev (fun k => L k (i : Int)) ((List.range' i d).all p)
  | 0, i, hd => by
    obtain rfl : i = n := by omega
    refine Ev.succ ?_
    simp only [hend]; exact Ev.now _
  | d + 1, i, hd => by
    refine Ev.succ ?_
    rw [List.range'_succ, List.all_cons]
    simp only [hstep i (by omega)]
    cases hp : p i
    · simp only [Bool.false_eq_true, if_false, Bool.false_and]; exact Ev.now _
    · simp only [if_true, Bool.true_and]; exact Jf L n p hend hstep d (i + 1) (by omega)
theorem Zl (L : Nat → Int → Option Bool) (n : Nat) (p : Nat → Bool) (hend : ∀ k, L (k + 1) (n : Int) = some true)
    (hstep : ∀ i, i < n → ∀ k, L (k + 1) (i : Int) = if p i = true then L k ((i + 1 : Nat) : Int) else some false) :
    Ev (fun k => L k 0) ((List.range n).all p) := by
  rw [List.range_eq_range']; exact Jf L n p hend hstep n 0 (by omega)
/-- A loop that gathers: at each place the state takes a step; an invariant goes along. -/
theorem Qr {σ ρ : Type} (L : Nat → σ → Int → Option ρ) (n : Nat) (step : σ → Nat → σ) (inv : Nat → σ → Prop) (fin : σ → ρ)
    (hend : ∀ s, inv n s → Ev (fun k => L (k + 1) s (n : Int)) (fin s))
    (hstep : ∀ i s, i < n → inv i s → inv (i + 1) (step s i) ∧ ∀ r, Ev (fun k => L k (step s i) ((i + 1 : Nat) : Int)) r → Ev (fun k => L (k + 1) s (i : Int)) r) :
    ∀ d i s, i + d = n → inv i s → Ev (fun k => L k s (i : Int)) (fin ((List.range' i d).foldl step s))
  | 0, i, s, hd, hi => by
    obtain rfl : i = n := by omega
    exact Ev.succ (hend s hi)
  | d + 1, i, s, hd, hi => by
    refine Ev.succ ?_
    obtain ⟨h1, h2⟩ := hstep i s (by omega) hi
    exact h2 _ (Qr L n step inv fin hend hstep d (i + 1) (step s i) (by omega) h1)
theorem vk {σ ρ : Type} (L : Nat → σ → Int → Option ρ) (n : Nat) (step : σ → Nat → σ) (inv : Nat → σ → Prop) (fin : σ → ρ)
    (hend : ∀ s, inv n s → Ev (fun k => L (k + 1) s (n : Int)) (fin s))
    (hstep : ∀ i s, i < n → inv i s → inv (i + 1) (step s i) ∧ ∀ r, Ev (fun k => L k (step s i) ((i + 1 : Nat) : Int)) r → Ev (fun k => L (k + 1) s (i : Int)) r) (s : σ) (h : inv 0 s) :
    Ev (fun k => L k s 0) (fin ((List.range n).foldl step s)) := by
  rw [List.range_eq_range']; exact Qr L n step inv fin hend hstep n 0 s (by omega) h

/-- A loop that gathers, and what stands behind it. -/
theorem q8 {σ ρ : Type} (L : Nat → σ → Int → Option ρ) (n : Nat) (step : σ → Nat → σ) (inv : Nat → σ → Prop)
    (hstep : ∀ i s, i < n → inv i s → inv (i + 1) (step s i) ∧ ∀ r, Ev (fun k => L k (step s i) ((i + 1 : Nat) : Int)) r → Ev (fun k => L (k + 1) s (i : Int)) r) (s : σ) (h : inv 0 s) :
    inv n ((List.range n).foldl step s) ∧ ∀ r, Ev (fun k => L k ((List.range n).foldl step s) (n : Int)) r → Ev (fun k => L k s 0) r := by
  have key : ∀ d i s, i + d = n → inv i s → inv n ((List.range' i d).foldl step s) ∧ ∀ r, Ev (fun k => L k ((List.range' i d).foldl step s) (n : Int)) r → Ev (fun k => L k s (i : Int)) r := by
    intro d
    induction d with
    | zero => intro i s hd hi; obtain rfl : i = n := by omega
              exact ⟨hi, fun r h => h⟩
    | succ d ih =>
      intro i s hd hi
      obtain ⟨h1, h2⟩ := hstep i s (by omega) hi
      obtain ⟨h3, h4⟩ := ih (i + 1) (step s i) (by omega) h1
      rw [List.range'_succ, List.foldl_cons]
      exact ⟨h3, fun r h => Ev.succ (h2 r (h4 r h))⟩
  rw [List.range_eq_range']
  exact key n 0 s (by omega) h
/-- A loop from its end back: what a place makes of the answer of what follows. -/
theorem Qg {ρ : Type} (L : Nat → Int → Option ρ) (n : Nat) (f : Nat → ρ → ρ) (last : ρ) (hend : Ev (fun k => L (k + 1) (n : Int)) last)
    (hstep : ∀ i, i < n → ∀ r, Ev (fun k => L k ((i + 1 : Nat) : Int)) r → Ev (fun k => L (k + 1) (i : Int)) (f i r)) : Ev (fun k => L k 0) ((List.range n).foldr f last) := by
  have key : ∀ d i, i + d = n → Ev (fun k => L k (i : Int)) ((List.range' i d).foldr f last) := by
    intro d
    induction d with
    | zero => intro i hd; obtain rfl : i = n := by omega
              exact Ev.succ hend
    | succ d ih =>
      intro i hd
      rw [List.range'_succ, List.foldr_cons]
      exact Ev.succ (hstep i (by omega) _ (ih (i + 1) (by omega)))
  rw [List.range_eq_range']
  exact key n 0 (by omega)
theorem Zn {α : Type} (p : α → Bool) (r : Bool) : ∀ l : List α, l.foldr (fun i r => p i || r) r = (l.any p || r)
  | [] => by simp
  | a :: l => by rw [List.foldr_cons, List.any_cons, Zn p r l, Bool.or_assoc]
theorem qL (l : List Int) (j : Nat) : rd l (j : Int) = l.getD j 0 := by simp [rd]
theorem yF {α : Type} (l : List α) (d : α) (p : α → Bool) : (List.range l.length).all (fun i => p (l.getD i d)) = l.all p := by
  rw [Bool.eq_iff_iff, List.all_eq_true, List.all_eq_true]
  constructor
  · intro h x hx
    obtain ⟨i, hi, rfl⟩ := List.getElem_of_mem hx
    have := h i (by simpa using hi)
    simpa [List.getElem?_eq_getElem hi] using this
  · intro h i hi
    have hi : i < l.length := by simpa using hi
    have := h l[i] (List.getElem_mem hi)
    simpa [List.getElem?_eq_getElem hi] using this
end Go.Proofs.Ytopkfhnnapncgaa.L
end
section
namespace Go.Proofs.Ytopkfhnnapncgaa.L
open Go.RowKit Go.Proofs.Ytopkfhnnapncgaa.F Go.Proofs.YtopkfhnnapncgaaW.PrintWords Go.Proofs.YtopkfhnnapncgaaW.PrintLast Go.Proofs.YtopkfhnnapncgaaW.PrintMore
open Go.Proofs.Ytopkfhnnapncgaa.Bits

theorem QE (l l' : List Int) (h : l.length = l'.length) : (List.range l.length).all (fun i => decide (l.getD i 0 = l'.getD i 0)) = decide (l = l') := by
  rw [Bool.eq_iff_iff, List.all_eq_true, decide_eq_true_iff]
  constructor
  · intro hh
    apply List.ext_getElem h
    intro i h1 h2
    have := hh i (by simpa using h1)
    simpa [List.getElem?_eq_getElem h1, List.getElem?_eq_getElem h2] using this
  · rintro rfl i _
    simp

theorem YZ (l l' : List Int) (h : l.length ≤ 17592186044416) : Ev (fun k => qv.f k l l') (decide (l = l')) := by
  unfold qv.f
  by_cases e : l.length = l'.length
  · simp only [show ((l.length : Int) = (l'.length : Int)) by omega, if_true]
    rw [← QE l l' e]
    refine Zl _ _ _ (fun k => by simp only [qv.l0, show ¬ ((l.length : Int) < (l.length : Int)) by omega, if_false]) ?_
    intro i hi k
    simp only [qv.l0, show ((i : Int) < (l.length : Int)) by omega, show ((i : Int) < (l'.length : Int)) by omega, show (0 : Int) ≤ (i : Int) by omega, if_true, qL, zY (show i < 9223372036854775807 by omega), decide_eq_true_eq]
  · simp only [show ¬ ((l.length : Int) = (l'.length : Int)) by omega, if_false]
    rw [show decide (l = l') = false by simp; rintro rfl; exact e rfl]
    exact Ev.now _

theorem YY (l : List Int) (n : Int) (h : l.length ≤ 17592186044416) (h0 : 0 ≤ n) (h1 : n ≤ 1048576) : js.f l n = some (if n < l.length then -1 else n - l.length) := by
  unfold js.f
  have hw : wrap64 (n - (l.length : Int)) = n - (l.length : Int) := jh (by omega) (by omega)
  rw [hw]
  split
  · rw [if_pos (by omega)]
  · rw [if_neg (by omega)]
theorem Qj (l : List Int) : ∀ n, n ≤ l.length → (List.range n).foldl (fun a i => a.set i (l.getD i 0)) (List.replicate l.length 0) = l.take n ++ List.replicate (l.length - n) 0
  | 0, _ => by simp
  | n + 1, h => by
    rw [List.range_succ, List.foldl_append, Qj l n (by omega)]
    simp only [List.foldl_cons, List.foldl_nil]
    obtain ⟨m, hm⟩ : ∃ m, l.length - n = m + 1 := ⟨l.length - n - 1, by omega⟩
    rw [hm, List.replicate_succ, List.set_append_right _ _ (by simp; omega)]
    have : n - (List.take n l).length = 0 := by simp; omega
    rw [this, List.set_cons_zero, show l.length - (n + 1) = m by omega]
    have hg : l.getD n 0 = l[n] := by simp [List.getElem?_eq_getElem (show n < l.length by omega)]
    rw [List.take_succ_eq_append_getElem (by omega), List.append_assoc, List.singleton_append, hg]

theorem YR (l : List Int) (h : l.length ≤ 17592186044416) : Ev (fun k => ql.f k l) l := by
  unfold ql.f
  simp only [show (0 : Int) ≤ (l.length : Int) by omega, Int.toNat_natCast, show l.length ≤ 35184372088832 by omega, if_true]
  have key := vk (fun k s i => ql.l0 k l s i) l.length (fun a i => a.set i (l.getD i 0)) (fun _ s => s.length = l.length) id
    (fun s hs => by
      simp only [ql.l0, show ¬ ((l.length : Int) < (l.length : Int)) by omega, if_false]
      exact Ev.now _)
    (fun i s hi hs => ⟨by simp [hs], fun r hr => by
      simp only [ql.l0, show ((i : Int) < (l.length : Int)) by omega, show ((i : Int) < (s.length : Int)) by omega, show (0 : Int) ≤ (i : Int) by omega, if_true, Int.toNat_natCast, qL, zY (show i < 9223372036854775807 by omega)]
      exact hr⟩) (List.replicate l.length 0) (by simp)
  rw [Qj l l.length (Nat.le_refl _)] at key
  simpa using key
end Go.Proofs.Ytopkfhnnapncgaa.L
end
