/- Several texts of this session in one: Fx4, Fx5, GvSetsOf, GvFromMatrixQ, Fx7, Bits, Loops, LLists, LTabs, LSets, LMatrix, LCell, LReduce, Mat, Mat2, Mat4. Conditions: as each theorem says. -/
import Derived.Test.YtjlbfbpjcmjdfaaZFromMatrix0
import Derived.Test.YtjlbfbpjcmjdfaaZFromMatrix1
import Derived.Test.YtjlbfbpjcmjdfaaZFromMatrix2
import Derived.Test.YtjlbfbpjcmjdfaaZFromMatrix3
import Derived.Shelf.Abstract
import Derived.Laws.BitsLemmas
set_option maxHeartbeats 8000000
set_option maxRecDepth 100000
section
namespace Go.Proofs.Ytjlbfbpjcmjdfaa.F
open Go.RowKit Go.Proofs.YtjlbfbpjcmjdfaaW.PrintWords Go.Proofs.YtjlbfbpjcmjdfaaW.PrintLast Go.Proofs.YtjlbfbpjcmjdfaaW.PrintMore
attribute [local go_sem] j9 j8 vO vV jO jP vl j6   -- for this text's walks alone
set_option linter.unusedVariables false
set_option linter.unusedSimpArgs false

def zP.j0 : Nat → Int → Bool → Int → Int → Int → List Int → Option (Int)
 | 0, _, _, _, _, _, _ => none
 | k + 1, x1, x16, x212000, x212001, x212002, x212003 => if x16 = true then (some (-1)) else ((zt.f k x212000 x212001 x212002 x212003 x1).bind fun bt214 => ((zc.f k bt214.1 bt214.2.1 bt214.2.2.1 bt214.2.2.2).bind fun bt220 => (some (bt220.2.2.2.2.length : Int))))
def zP.f (k : Nat) (a0_0 : Int) (a0_1 : Int) (a0_2 : Int) (l0_3 : List Int) (a1 : Int) : Option (Int) := (zl.f k a0_0 a0_1 a0_2 l0_3).bind fun t212 => (if t212 = true then ((qN.f a0_2 a1).bind fun t213 => (zP.j0 k a1 (!t213) a0_0 a0_1 a0_2 l0_3)) else (zP.j0 k a1 true a0_0 a0_1 a0_2 l0_3))
theorem zP.calls (k : Nat) (a0_0 : Int) (a0_1 : Int) (a0_2 : Int) (A0_3 : Option Addr) (c0_3 : Nat) (l0_3 : List Int) (a1 : Int) (r : Int) (w : World) (hr0_3 : Kd.C (Kd.int .i64) w A0_3 l0_3.length l0_3) (hc0_3 : l0_3.length ≤ c0_3) (h : zP.f k a0_0 a0_1 a0_2 l0_3 a1 = some r) :
  Calls Try.prog 21 #[.agg #[.int .i64 a0_0, .int .i64 a0_1, .int .i64 a0_2, .slice A0_3 l0_3.length c0_3], .int .i64 a1] w fun e w' => e = .returned (.int .i64 r) ∧ Below w.heap.size w w' := by
 have hu29 := Try.underlying29
 have HR0_3 := Aside0.mk hr0_3
 have HC0_3 := Aside0.mk hc0_3
 clear hr0_3 hc0_3
 have HB := Aside0.mk (Below.refl w.heap.size w)
 have H : ((zl.f k a0_0 a0_1 a0_2 l0_3).bind fun t212 => (if t212 = true then ((qN.f a0_2 a1).bind fun t213 => (zP.j0 k a1 (!t213) a0_0 a0_1 a0_2 l0_3)) else (zP.j0 k a1 true a0_0 a0_1 a0_2 l0_3))) = some r := h
 clear h
 have HC3 := Aside0.mk H
 clear H
 go_enter Try.func21, Try.ntmps21
 go_upto_region 1 with (first | ((with_reducible refine zq (N := 2) rfl ?_); refine zo ?hg (N := 2) ?hd (cs := #[.int .i64 a0_0, .int .i64 a0_1, .int .i64 a0_2, .slice A0_3 l0_3.length c0_3]) (t := 29) ?hr ?_; (case hd => rfl); (case hg => rfl); (case hr => exact sqG); intro gb211 hg w4 hbox hb; have n0_ := Aside0.mk (ze sqB hb); have n1_ := Aside0.mk (hbox); have n2_ := Aside0.mk ((sqS hg : w.heap.size ≤ gb211)); have n3_ := Aside0.mk ((sqS hg : w.heap.size ≤ gb211)); clear HB; have HB := n0_; have BK211 := n1_; have GW211 := n2_; have GE211 := n3_; clear n0_ n1_ n2_ n3_; clear hb hbox hg))
 (try simp only [Act.put, List.setIfInBounds_toArray, List.set_cons_zero, List.set_cons_succ])
 go_cut [16] (fun v16 wc => ∃ (kq : Nat) (x16_2 : Bool), v16 = .bool x16_2 ∧ Aside0 (zP.j0 kq a1 x16_2 a0_0 a0_1 a0_2 l0_3 = some r) ∧ Aside0 (kq ≤ k) ∧ Aside0 (wc.heap[gb211]? = some (.cells #[.int .i64 a0_0, .int .i64 a0_1, .int .i64 a0_2, (.slice A0_3 l0_3.length c0_3)] 29 (0, 0))) ∧ Aside0 (Below w.heap.size w wc))
 case first =>
  have H := HC3.out
  clear HC3
  replace H := Option.bind_eq_some_iff.mp H
  obtain ⟨t212, A50, H⟩ := H
  replace H : (if t212 = true then ((qN.f a0_2 a1).bind fun t213 => (zP.j0 k a1 (!t213) a0_0 a0_1 a0_2 l0_3)) else (zP.j0 k a1 true a0_0 a0_1 a0_2 l0_3)) = some r := H
  have A5 := Aside0.mk A50
  clear A50
  by_cases c6 : t212 = true
  ·subst c6
   have H1 : ((qN.f a0_2 a1).bind fun t213 => (zP.j0 k a1 (!t213) a0_0 a0_1 a0_2 l0_3)) = some r := by rw [if_pos rfl] at H; exact H
   clear H
   have H := H1
   clear H1
   replace H := Option.bind_eq_some_iff.mp H
   obtain ⟨t213, A70, H⟩ := H
   replace H : (zP.j0 k a1 (!t213) a0_0 a0_1 a0_2 l0_3) = some r := H
   have A7 := Aside0.mk A70
   clear A70
   have H' := Aside0.mk H
   clear H
   have hcz8_0 : w4.cell? ⟨gb211, 0, none⟩ = some (.int .i64 a0_0) := (zb BK211.out 0).trans rfl
   have hcz8_1 : w4.cell? ⟨gb211, 1, none⟩ = some (.int .i64 a0_1) := (zb BK211.out 1).trans rfl
   have hcz8_2 : w4.cell? ⟨gb211, 2, none⟩ = some (.int .i64 a0_2) := (zb BK211.out 2).trans rfl
   have hcz8_3 : w4.cell? ⟨gb211, 3, none⟩ = some (.slice A0_3 l0_3.length c0_3) := (zb BK211.out 3).trans rfl
   have hfz8_0 := za BK211.out 0; have hfz8_1 := za BK211.out 1; have hfz8_2 := za BK211.out 2; have hfz8_3 := za BK211.out 3
   go_wp2_with (first | ((with_reducible refine zf (f := 17) rfl ?_); refine zu (some 8) rfl rfl Try.func17 (by kernel_rfl) rfl #[.agg #[.int .i64 a0_0, .int .i64 a0_1, .int .i64 a0_2, .slice A0_3 l0_3.length c0_3]] rfl sqM ?_; (with_reducible refine (zl.calls k a0_0 a0_1 a0_2 _ _ l0_3 true _ ?side1 ?side2 A5.out).mono ?_); (case side1 => exact sqC (Kd.zI HR0_3.out HB.out)); (case side2 => exact HC0_3.out); rintro e w9 ⟨rfl, hb⟩; refine ⟨_, rfl, ?_⟩; have n0_ := Aside0.mk (zd (g := gb211) (o := .cells #[.int .i64 a0_0, .int .i64 a0_1, .int .i64 a0_2, .slice A0_3 l0_3.length c0_3] 29 (0, 0)) (sqK BK211.out) hb); have n1_ := Aside0.mk (ze sqB hb); clear BK211; clear HB; have BK211 := n0_; have HB := n1_; clear n0_ n1_; (try clear hb); (try clear hb2); (try clear hk); (try clear hi); have hcz10_0 : w9.cell? ⟨gb211, 0, none⟩ = some (.int .i64 a0_0) := (zb BK211.out 0).trans rfl; have hcz10_1 : w9.cell? ⟨gb211, 1, none⟩ = some (.int .i64 a0_1) := (zb BK211.out 1).trans rfl; have hcz10_2 : w9.cell? ⟨gb211, 2, none⟩ = some (.int .i64 a0_2) := (zb BK211.out 2).trans rfl; have hcz10_3 : w9.cell? ⟨gb211, 3, none⟩ = some (.slice A0_3 l0_3.length c0_3) := (zb BK211.out 3).trans rfl; have hfz10_0 := za BK211.out 0; have hfz10_1 := za BK211.out 1; have hfz10_2 := za BK211.out 2; have hfz10_3 := za BK211.out 3) | (go_at_call 36; (try simp only [zk, zm]); (with_reducible refine (qN.calls a0_2 a1 t213 _ A7.out).mono ?_); rintro e w' ⟨rfl, ⟨nd, rfl⟩⟩))
   go_meet
   case rel => exact ⟨_, (!t213), (sqD), H', ⟨by first | omega | exact Nat.le_refl _⟩, ⟨sqK BK211.out⟩, ⟨sqB⟩⟩
  ·replace c6 := Bool.eq_false_iff.mpr c6
   subst c6
   have H1 : (zP.j0 k a1 true a0_0 a0_1 a0_2 l0_3) = some r := by rw [if_neg (show ¬ (false = true) by decide)] at H; exact H
   clear H
   have H := H1
   clear H1
   have H' := Aside0.mk H
   clear H
   have hcz11_0 : w4.cell? ⟨gb211, 0, none⟩ = some (.int .i64 a0_0) := (zb BK211.out 0).trans rfl
   have hcz11_1 : w4.cell? ⟨gb211, 1, none⟩ = some (.int .i64 a0_1) := (zb BK211.out 1).trans rfl
   have hcz11_2 : w4.cell? ⟨gb211, 2, none⟩ = some (.int .i64 a0_2) := (zb BK211.out 2).trans rfl
   have hcz11_3 : w4.cell? ⟨gb211, 3, none⟩ = some (.slice A0_3 l0_3.length c0_3) := (zb BK211.out 3).trans rfl
   have hfz11_0 := za BK211.out 0; have hfz11_1 := za BK211.out 1; have hfz11_2 := za BK211.out 2; have hfz11_3 := za BK211.out 3
   go_wp2_with (first | ((with_reducible refine zf (f := 17) rfl ?_); refine zu (some 8) rfl rfl Try.func17 (by kernel_rfl) rfl #[.agg #[.int .i64 a0_0, .int .i64 a0_1, .int .i64 a0_2, .slice A0_3 l0_3.length c0_3]] rfl sqM ?_; (with_reducible refine (zl.calls k a0_0 a0_1 a0_2 _ _ l0_3 false _ ?side1 ?side2 A5.out).mono ?_); (case side1 => exact sqC (Kd.zI HR0_3.out HB.out)); (case side2 => exact HC0_3.out); rintro e w12 ⟨rfl, hb⟩; refine ⟨_, rfl, ?_⟩; have n0_ := Aside0.mk (zd (g := gb211) (o := .cells #[.int .i64 a0_0, .int .i64 a0_1, .int .i64 a0_2, .slice A0_3 l0_3.length c0_3] 29 (0, 0)) (sqK BK211.out) hb); have n1_ := Aside0.mk (ze sqB hb); clear BK211; clear HB; have BK211 := n0_; have HB := n1_; clear n0_ n1_; (try clear hb); (try clear hb2); (try clear hk); (try clear hi)))
   go_meet
   case rel => exact ⟨_, (true), (sqD), H', ⟨by first | omega | exact Nat.le_refl _⟩, ⟨sqK BK211.out⟩, ⟨sqB⟩⟩
 case rest =>
  clear HC3
  try clear c1
  try clear c2
  try clear p2
  try clear c6
  try clear hcz10_0
  try clear hcz10_1
  try clear hcz10_2
  try clear hcz10_3
  try clear hcz11_0
  try clear hcz11_1
  try clear hcz11_2
  try clear hcz11_3
  try clear hcz8_0
  try clear hcz8_1
  try clear hcz8_2
  try clear hcz8_3
  try clear hfz10_0
  try clear hfz10_1
  try clear hfz10_2
  try clear hfz10_3
  try clear hfz11_0
  try clear hfz11_1
  try clear hfz11_2
  try clear hfz11_3
  try clear hfz8_0
  try clear hfz8_1
  try clear hfz8_2
  try clear hfz8_3
  obtain ⟨kq, x16_2, rfl, HA, HJ2, BK211, HB⟩ := hcut
  cases kq with
  | zero => exact absurd HA.out (by simp [zP.j0])
  | succ kj2 =>
   have H := HA.out
   clear HA
   simp only [zP.j0] at H
   by_cases c13 : x16_2 = true
   ·subst c13
    have H1 : (some (-1)) = some r := by rw [if_pos rfl] at H; exact H
    clear H
    have H := H1
    clear H1
    obtain rfl := Option.some.inj H
    go_wp2
    go_ret
    exact ⟨sqE, sqB⟩
   ·replace c13 := Bool.eq_false_iff.mpr c13
    subst c13
    have H1 : ((zt.f kj2 a0_0 a0_1 a0_2 l0_3 a1).bind fun bt214 => ((zc.f kj2 bt214.1 bt214.2.1 bt214.2.2.1 bt214.2.2.2).bind fun bt220 => (some (bt220.2.2.2.2.length : Int)))) = some r := by rw [if_neg (show ¬ (false = true) by decide)] at H; exact H
    clear H
    have H := H1
    clear H1
    replace H := Option.bind_eq_some_iff.mp H
    obtain ⟨⟨t214, t215, t216, t217⟩, A140, H⟩ := H
    replace H : ((zc.f kj2 t214 t215 t216 t217).bind fun bt220 => (some (bt220.2.2.2.2.length : Int))) = some r := H
    have A14 := Aside0.mk A140
    clear A140
    replace H := Option.bind_eq_some_iff.mp H
    obtain ⟨⟨t220, t221, t222, t223, t226⟩, A150, H⟩ := H
    replace H : (some (t226.length : Int)) = some r := H
    have A15 := Aside0.mk A150
    clear A150
    obtain rfl := Option.some.inj H
    have hcz16_0 : wc.cell? ⟨gb211, 0, none⟩ = some (.int .i64 a0_0) := (zb BK211.out 0).trans rfl
    have hcz16_1 : wc.cell? ⟨gb211, 1, none⟩ = some (.int .i64 a0_1) := (zb BK211.out 1).trans rfl
    have hcz16_2 : wc.cell? ⟨gb211, 2, none⟩ = some (.int .i64 a0_2) := (zb BK211.out 2).trans rfl
    have hcz16_3 : wc.cell? ⟨gb211, 3, none⟩ = some (.slice A0_3 l0_3.length c0_3) := (zb BK211.out 3).trans rfl
    have hfz16_0 := za BK211.out 0; have hfz16_1 := za BK211.out 1; have hfz16_2 := za BK211.out 2; have hfz16_3 := za BK211.out 3
    go_wp2_with (first | ((with_reducible refine zf (f := 38) rfl ?_); refine zu (some 20) rfl rfl Try.func38 (by kernel_rfl) rfl #[.agg #[.int .i64 a0_0, .int .i64 a0_1, .int .i64 a0_2, .slice A0_3 l0_3.length c0_3], .int .i64 a1] rfl sqM ?_; (with_reducible refine (zt.calls kj2 a0_0 a0_1 a0_2 _ _ l0_3 a1 t214 t215 t216 t217 _ ?side1 ?side2 A14.out).mono ?_); (case side1 => exact sqC (Kd.zI HR0_3.out HB.out)); (case side2 => exact HC0_3.out); rintro e w17 ⟨v218, rfl, ho0, hb⟩; refine ⟨_, rfl, ?_⟩; have n0_ := Aside0.mk (Kd.qq ho0 (zB sqB)); have n1_ := Aside0.mk (zd (g := gb211) (o := .cells #[.int .i64 a0_0, .int .i64 a0_1, .int .i64 a0_2, .slice A0_3 l0_3.length c0_3] 29 (0, 0)) (sqK BK211.out) hb); have n2_ := Aside0.mk (ze sqB hb); clear BK211; clear HB; have HO219 := n0_; have BK211 := n1_; have HB := n2_; clear n0_ n1_ n2_; (try clear hb); (try clear hb2); (try clear hk); (try clear hi); (try clear ho0); obtain ⟨Ao18, co18, eo18⟩ := Kd.z8 HO219.out; subst eo18) | ((with_reducible refine zf (f := 37) rfl ?_); refine zu (some 21) rfl rfl Try.func37 (by kernel_rfl) rfl #[.agg #[.int .i64 t214, .int .i64 t215, .int .i64 t216, .slice Ao18 t217.length co18]] rfl sqM ?_; (with_reducible refine (zc.calls kj2 t214 t215 t216 _ _ t217 t220 t221 t222 t223 t226 _ ?side1 ?side2 A15.out).mono ?_); (case side1 => exact sqC (Kd.zx HO219.out).2.2); (case side2 => exact (Kd.zx HO219.out).2.1); rintro e w19 ⟨v224, v227, rfl, ho0, ho1, hb⟩; refine ⟨_, rfl, ?_⟩; have n0_ := Aside0.mk (Kd.zy (Kd.zaE (Kd.zaE (Kd.zcU (sqR HO219.out) hb) (Kd.qS ho0)) (Kd.qS ho1)) (fun _ h_ => h_.1)); have n1_ := Aside0.mk (Kd.qq (Kd.ja ho0 (Kd.vr (sqR HO219.out))) (zB sqB)); have n2_ := Aside0.mk (Kd.qq (Kd.ja ho1 (Kd.vr (sqR HO219.out))) (zB sqB)); have n3_ := Aside0.mk (zd (g := gb211) (o := .cells #[.int .i64 a0_0, .int .i64 a0_1, .int .i64 a0_2, .slice A0_3 l0_3.length c0_3] 29 (0, 0)) (sqK BK211.out) hb); have n4_ := Aside0.mk (ze sqB hb); clear HO219; clear BK211; clear HB; have HO219 := n0_; have HO225 := n1_; have HO228 := n2_; have BK211 := n3_; have HB := n4_; clear n0_ n1_ n2_ n3_ n4_; (try clear hb); (try clear hb2); (try clear hk); (try clear hi); (try clear ho0); (try clear ho1)) | ((with_reducible refine zq (N := 5) rfl ?_); refine zo ?hg (N := 5) ?hd (cs := #[.int .i64 0, .int .i64 0, .int .i64 0, .slice none 0 0]) (t := 29) ?hr ?_; (case hd => rfl); (case hg => rfl); (case hr => exact sqG); intro gb229 hg w20 hbox hb; have n0_ := Aside0.mk (Kd.zE (sqR HO219.out) hb); have n1_ := Aside0.mk (Kd.zE (sqR HO225.out) hb); have n2_ := Aside0.mk (Kd.zE (sqR HO228.out) hb); have n3_ := Aside0.mk (zd (g := gb211) (o := .cells #[.int .i64 a0_0, .int .i64 a0_1, .int .i64 a0_2, .slice A0_3 l0_3.length c0_3] 29 (0, 0)) (sqK BK211.out) hb); have n4_ := Aside0.mk (ze sqB hb); have n5_ := Aside0.mk (hbox); have n6_ := Aside0.mk ((sqS hg : w.heap.size ≤ gb229)); have n7_ := Aside0.mk ((sqS hg : w.heap.size ≤ gb229)); have n8_ := Aside0.mk ((by rw [hg]; exact Nat.ne_of_lt (zz (g := gb211) (o := .cells #[.int .i64 a0_0, .int .i64 a0_1, .int .i64 a0_2, .slice A0_3 l0_3.length c0_3] 29 (0, 0)) (sqK BK211.out)) : gb211 ≠ gb229)); have n9_ := Aside0.mk ((by rw [hg]; exact Nat.ne_of_gt (zz (g := gb211) (o := .cells #[.int .i64 a0_0, .int .i64 a0_1, .int .i64 a0_2, .slice A0_3 l0_3.length c0_3] 29 (0, 0)) (sqK BK211.out)) : gb229 ≠ gb211)); clear HO219; clear HO225; clear HO228; clear BK211; clear HB; have HO219 := n0_; have HO225 := n1_; have HO228 := n2_; have BK211 := n3_; have HB := n4_; have BK229 := n5_; have GW229 := n6_; have GE229 := n7_; have NB211_229 := n8_; have NB229_211 := n9_; clear n0_ n1_ n2_ n3_ n4_ n5_ n6_ n7_ n8_ n9_; clear hb hbox hg; have hnb21 := NB229_211.out; have hnc21 := NB211_229.out; have hcz22_0 : w20.cell? ⟨gb229, 0, none⟩ = some (.int .i64 0) := (zb BK229.out 0).trans rfl; have hcz22_1 : w20.cell? ⟨gb229, 1, none⟩ = some (.int .i64 0) := (zb BK229.out 1).trans rfl; have hcz22_2 : w20.cell? ⟨gb229, 2, none⟩ = some (.int .i64 0) := (zb BK229.out 2).trans rfl; have hcz22_3 : w20.cell? ⟨gb229, 3, none⟩ = some (.slice none 0 0) := (zb BK229.out 3).trans rfl; have hfz22_0 := za BK229.out 0; have hfz22_1 := za BK229.out 1; have hfz22_2 := za BK229.out 2; have hfz22_3 := za BK229.out 3; obtain ⟨Ao23, co23, eo23⟩ := Kd.z8 HO225.out; subst eo23; obtain ⟨Ao24, co24, eo24⟩ := Kd.z8 HO228.out; subst eo24))
    go_ret
    exact ⟨sqE, sqB⟩

end Go.Proofs.Ytjlbfbpjcmjdfaa.F
end
section
namespace Go.Proofs.Ytjlbfbpjcmjdfaa.F
open Go.RowKit Go.Proofs.YtjlbfbpjcmjdfaaW.PrintWords Go.Proofs.YtjlbfbpjcmjdfaaW.PrintLast Go.Proofs.YtjlbfbpjcmjdfaaW.PrintMore
attribute [local go_sem] j9 j8 vO vV jO jP vl j6   -- for this text's walks alone
set_option linter.unusedVariables false
set_option linter.unusedSimpArgs false

def qW.f (a0 : Int) : Option (Int) := (jg.f a0).bind fun t230 => (some t230)
theorem qW.calls (a0 : Int) (r : Int) (w : World) (h : qW.f a0 = some r) :
  Calls Try.prog 40 #[.int .u64 a0] w fun e w' => e = .returned (.int .i64 r) ∧ zi w w' := by
 have H : ((jg.f a0).bind fun t230 => (some t230)) = some r := h
 clear h
 replace H := Option.bind_eq_some_iff.mp H
 obtain ⟨t230, A20, H⟩ := H
 replace H : (some t230) = some r := H
 have A2 := Aside0.mk A20
 clear A20
 obtain rfl := Option.some.inj H
 go_enter Try.func40, Try.ntmps40
 go_wp2_with (first | ((with_reducible refine zf (f := 54) rfl ?_); refine zu (some 7) rfl rfl Try.func54 (by kernel_rfl) rfl #[.int .u64 a0] rfl sqM ?_; (with_reducible refine (jg.calls a0 t230 _ A2.out).mono ?_); rintro e w' ⟨rfl, ⟨nd, rfl⟩⟩; refine ⟨_, rfl, ?_⟩))
 go_ret
 exact ⟨sqD, by repeat (first | exact zi.refl _ | apply zi.step)⟩

def jM.f (a0 : Int) : Option (Int) := (z1.f a0).bind fun t231 => (if t231 = true then ((qW.f (IntKind.u64.wrap (a0))).bind fun t232 => (some t232)) else (some 0))
theorem jM.calls (a0 : Int) (r : Int) (w : World) (h : jM.f a0 = some r) :
  Calls Try.prog 22 #[.int .i64 a0] w fun e w' => e = .returned (.int .i64 r) ∧ zi w w' := by
 have H : ((z1.f a0).bind fun t231 => (if t231 = true then ((qW.f (IntKind.u64.wrap (a0))).bind fun t232 => (some t232)) else (some 0))) = some r := h
 clear h
 replace H := Option.bind_eq_some_iff.mp H
 obtain ⟨t231, A20, H⟩ := H
 replace H : (if t231 = true then ((qW.f (IntKind.u64.wrap (a0))).bind fun t232 => (some t232)) else (some 0)) = some r := H
 have A2 := Aside0.mk A20
 clear A20
 by_cases c3 : t231 = true
 ·subst c3
  have H1 : ((qW.f (IntKind.u64.wrap (a0))).bind fun t232 => (some t232)) = some r := by rw [if_pos rfl] at H; exact H
  clear H
  have H := H1
  clear H1
  replace H := Option.bind_eq_some_iff.mp H
  obtain ⟨t232, A40, H⟩ := H
  replace H : (some t232) = some r := H
  have A4 := Aside0.mk A40
  clear A40
  obtain rfl := Option.some.inj H
  go_enter Try.func22, Try.ntmps22
  go_wp2_with (first | ((with_reducible refine zf (f := 39) rfl ?_); refine zu (some 4) rfl rfl Try.func39 (by kernel_rfl) rfl #[.int .i64 a0] rfl sqM ?_; (with_reducible refine (z1.calls a0 true _ A2.out).mono ?_); rintro e w' ⟨rfl, ⟨nd, rfl⟩⟩; refine ⟨_, rfl, ?_⟩) | ((with_reducible refine zf (f := 40) rfl ?_); refine zu (some 8) rfl rfl Try.func40 (by kernel_rfl) rfl #[.int .u64 (IntKind.u64.wrap (a0))] rfl sqM ?_; (with_reducible refine (qW.calls (IntKind.u64.wrap (a0)) t232 _ A4.out).mono ?_); rintro e w' ⟨rfl, ⟨nd, rfl⟩⟩; refine ⟨_, rfl, ?_⟩))
  go_ret
  exact ⟨sqD, by repeat (first | exact zi.refl _ | apply zi.step)⟩
 ·replace c3 := Bool.eq_false_iff.mpr c3
  subst c3
  have H1 : (some 0) = some r := by rw [if_neg (show ¬ (false = true) by decide)] at H; exact H
  clear H
  have H := H1
  clear H1
  obtain rfl := Option.some.inj H
  go_enter Try.func22, Try.ntmps22
  go_wp2_with (first | ((with_reducible refine zf (f := 39) rfl ?_); refine zu (some 4) rfl rfl Try.func39 (by kernel_rfl) rfl #[.int .i64 a0] rfl sqM ?_; (with_reducible refine (z1.calls a0 false _ A2.out).mono ?_); rintro e w' ⟨rfl, ⟨nd, rfl⟩⟩; refine ⟨_, rfl, ?_⟩))
  go_ret
  exact ⟨sqD, by repeat (first | exact zi.refl _ | apply zi.step)⟩

end Go.Proofs.Ytjlbfbpjcmjdfaa.F
end
section
namespace Go.Proofs.Ytjlbfbpjcmjdfaa.F
open Go.RowKit Go.Proofs.YtjlbfbpjcmjdfaaW.PrintWords Go.Proofs.YtjlbfbpjcmjdfaaW.PrintLast Go.Proofs.YtjlbfbpjcmjdfaaW.PrintMore
set_option linter.unusedSimpArgs false
set_option linter.unusedVariables false
def yk (q : Int → Option Bool) : Nat → Int → List Int → Int → Option (List Int)
  | 0, _, _, _ => none
  | k + 1, n, out, s => (jm.f n).bind fun t => if s ≤ t then ((q s).bind fun b => if b = true then (if out.length < 17592186044416 then yk q k n (out ++ [s]) (wrap64 (s + 1)) else none) else yk q k n out (wrap64 (s + 1))) else some out
theorem ZU (q : Int → Option Bool) (g : Nat) (lb : Array Value) (eg : ∀ args w, (callFunc g args).run Try.prog w = .ok (.enter g args) w) (k : Nat) (n : Int) (r : List Int) (w : World) (hp : JI g lb q w) (h : yk q k n [] 0 = some r) :
    Calls Try.prog 19 #[.int .i64 n, .func (.func g) #[] lb] w fun e w' => ∃ v0_ : Value, e = .returned (v0_) ∧ Kd.R (Kd.int .i64) 3 w' w.heap.size (fun _ => True) v0_ r ∧ Below w.heap.size w w' := by
  have HB := Aside0.mk (Below.refl w.heap.size w)
  have HP := Aside0.mk hp
  clear hp
  obtain ⟨yL, hyL⟩ : ∃ y_ : List Int, y_ = (([] : List Int)) := ⟨_, rfl⟩
  have H' := Aside0.mk (show yk q k n yL 0 = some r by rw [hyL]; exact h)
  clear h
  have NyL := Aside0.mk hyL
  clear hyL
  go_enter Try.func19, Try.ntmps19
  go_wp2_with (first | ((with_reducible refine zq (N := 7) rfl ?_); refine Kd.yZ (Kd.int .i64) _ 3 ?hg (N := 7) ?hd (xs := ([] : List Int)) (inner := []) (ok := fun _ => True) (okp := fun _ => True) ?hr ?hp (fun _ hk => hk) trivial (Below.refl _ _) (Nat.le_refl _) (by simp) ?_; (case hd => rfl); (case hg => rfl); (case hr => exact sqG); (case hp => exact (qx.none _ _)); intro vL wL hoL hb hg_ hnew_; clear hg_ hnew_; (first | rw [← NyL.out] at hoL | (simp only [Int.reduceToNat] at hoL; rw [← NyL.out] at hoL)); have n0_ := Aside0.mk (Kd.qq hoL (zB sqB)); have n1_ := Aside0.mk (ze sqB hb); clear HB; have HOL := n0_; have HB := n1_; clear n0_ n1_; clear hb hoL))
  go_loopg [5, 6] k (fun kq v5 v6 w' => ∃ (out : List Int) (s : Int), v6 = .int .i64 s ∧ Aside0 (yk q kq n out s = some r) ∧ Aside0 (kq ≤ k) ∧ Aside0 (Kd.R (Kd.int .i64) 3 w' w.heap.size (fun _ => True) v5 out) ∧ Aside0 (Below w.heap.size w w'))
  case atStart => exact ⟨yL, 0, rfl, H', ⟨Nat.le_refl _⟩, ⟨sqR HOL.out⟩, ⟨sqB⟩⟩
  case round =>
    clear H'
    obtain ⟨out, s, rfl, HA, HK1, HO, HB⟩ := hrel
    cases gk with
    | zero => exact absurd HA.out (by simp [yk])
    | succ k1 =>
      have H := HA.out
      clear HA
      simp only [yk] at H
      obtain ⟨t, ht, H⟩ := Option.bind_eq_some_iff.mp H
      have AT := Aside0.mk ht
      clear ht
      by_cases c1 : s ≤ t
      · rw [if_pos c1] at H
        obtain ⟨b, hb, H⟩ := Option.bind_eq_some_iff.mp H
        have AB := Aside0.mk hb
        clear hb
        have c1b0 : decide (s ≤ t) = true := decide_eq_true c1
        clear c1
        cases b with
        | true =>
          have H1 : (if out.length < 17592186044416 then yk q k1 n (out ++ [s]) (wrap64 (s + 1)) else none) = some r := by simpa using H
          clear H
          by_cases c2 : out.length < 17592186044416
          · rw [if_pos c2] at H1
            have HLen := Aside0.mk c2
            clear c2
            obtain ⟨yA, hyA⟩ : ∃ y_ : List Int, y_ = (out ++ [s]) := ⟨_, rfl⟩
            rw [← hyA] at H1
            have NyA := Aside0.mk hyA
            have H' := Aside0.mk H1
            clear H1 hyA
            go_wp2_with ((with_reducible refine zf (f := 35) rfl ?_); refine zu (some 10) rfl rfl Try.func35 (by kernel_rfl) rfl #[.int .i64 n] rfl (by (try simp only [List.map_toArray, List.map_cons, List.map_nil]); first | done | rfl) ?_; (with_reducible refine (jm.calls n t _ AT.out).mono ?_); rintro e w' ⟨rfl, ⟨nd, rfl⟩⟩; refine ⟨_, rfl, ?_⟩)
            refine (HP.out _ _ _ AB.out sqB).mono ?_
            rintro e w9 ⟨rfl, hb⟩
            have n0_ := Aside0.mk (ze (w := w) sqB hb)
            have n1_ := Aside0.mk (Kd.zE (sqR HO.out) hb)
            clear HB HO hb; have HB := n0_; have HO := n1_; clear n0_ n1_
            go_wp2_with ((with_reducible refine qT (b := .append) (xs := #[.tmp 17, .tmp 19]) rfl ?_); at_builtin; refine Kd.yC (Kd.int .i64) (w0 := w) w.heap.size rfl (.tmp 17) (.tmp 19) 22 3 (.int .i64 0) 8 rfl Try.underlying22 yT rfl (by decide) (by omega) u5 out s [.int .i64 s] (fun _ => True) (fun _ => False) rfl rfl ?aP (fun _ hk => hk.elim) ?aF ?aO ?aB ?aS ?aL ?_; (case aP => exact rfl); (case aB => exact sqB); (case aF => exact (fun _ _ => trivial)); (case aO => exact (sqR HO.out)); (case aS => exact (zB sqB)); (case aL => have := HLen.out; omega); intro v161 w8 ho hb hg hat; rw [← NyA.out] at ho; have n0_ := Aside0.mk (hb); have n1_ := Aside0.mk (ho); clear HB; clear HO; have HB := n0_; have HOA := n1_; clear n0_ n1_; clear ho hb hg hat)
            go_roundg k1
            case measure => have := HK1.out; omega
            case rel => exact ⟨yA, wrap64 (s + 1), rfl, H', ⟨by have := HK1.out; omega⟩, ⟨sqR HOA.out⟩, ⟨sqB⟩⟩
          · rw [if_neg c2] at H1
            exact absurd H1 (by simp)
        | false =>
          have H' := Aside0.mk (show yk q k1 n out (wrap64 (s + 1)) = some r by simpa using H)
          clear H
          go_wp2_with ((with_reducible refine zf (f := 35) rfl ?_); refine zu (some 10) rfl rfl Try.func35 (by kernel_rfl) rfl #[.int .i64 n] rfl (by (try simp only [List.map_toArray, List.map_cons, List.map_nil]); first | done | rfl) ?_; (with_reducible refine (jm.calls n t _ AT.out).mono ?_); rintro e w' ⟨rfl, ⟨nd, rfl⟩⟩; refine ⟨_, rfl, ?_⟩)
          refine (HP.out _ _ _ AB.out sqB).mono ?_
          rintro e w9 ⟨rfl, hb⟩
          have n0_ := Aside0.mk (ze (w := w) sqB hb)
          have n1_ := Aside0.mk (Kd.zE (sqR HO.out) hb)
          clear HB HO hb; have HB := n0_; have HO := n1_; clear n0_ n1_
          go_wp2
          go_roundg k1
          case measure => have := HK1.out; omega
          case rel => exact ⟨out, wrap64 (s + 1), rfl, H', ⟨by have := HK1.out; omega⟩, HO, HB⟩
      · rw [if_neg c1] at H
        have c1b0 : decide (s ≤ t) = false := decide_eq_false c1
        clear c1
        obtain rfl := Option.some.inj H
        go_wp2_with ((with_reducible refine zf (f := 35) rfl ?_); refine zu (some 10) rfl rfl Try.func35 (by kernel_rfl) rfl #[.int .i64 n] rfl (by (try simp only [List.map_toArray, List.map_cons, List.map_nil]); first | done | rfl) ?_; (with_reducible refine (jm.calls n t _ AT.out).mono ?_); rintro e w' ⟨rfl, ⟨nd, rfl⟩⟩; refine ⟨_, rfl, ?_⟩)
        go_ret
        exact ⟨_, rfl, sqR HO.out, sqB⟩
end Go.Proofs.Ytjlbfbpjcmjdfaa.F
end
section
namespace Go.Proofs.Ytjlbfbpjcmjdfaa.F
open Go.RowKit Go.Proofs.YtjlbfbpjcmjdfaaW.PrintWords Go.Proofs.YtjlbfbpjcmjdfaaW.PrintLast Go.Proofs.YtjlbfbpjcmjdfaaW.PrintMore
set_option linter.unusedSimpArgs false
set_option linter.unusedVariables false
def zR.q (k : Nat) (p r c : Int) (l : List Int) (s : Int) : Option Bool := (zP.f k p r c l s).bind fun t => (jM.f s).bind fun u => some (decide (t = u))
def zR.f (k : Nat) (n p r c : Int) (l : List Int) : Option (List Int) := yk (zR.q k p r c l) k n [] 0
theorem zR.pred (k : Nat) (p r c : Int) (l : List Int) (A : Option Addr) (cap gl : Nat) (w : World) (hm : w.heap[gl]? = some (.cells #[.int .i64 p, .int .i64 r, .int .i64 c, .slice A l.length cap] 29 (0, 0)))
    (hr : Kd.C (Kd.int .i64) w A l.length l) (hc : l.length ≤ cap) : JI 20 #[.pointer (some ⟨gl, 0, none⟩)] (zR.q k p r c l) w := by
  intro W x b hq hb
  unfold zR.q at hq
  obtain ⟨t, h1, hq⟩ := Option.bind_eq_some_iff.mp hq
  obtain ⟨u, h2, hq⟩ := Option.bind_eq_some_iff.mp hq
  obtain rfl := Option.some.inj hq
  have BKl := Aside0.mk (zd hm hb)
  have hc0 : W.cell? ⟨gl, 0, none⟩ = some (.int .i64 p) := (zb BKl.out 0).trans rfl
  have hc1 : W.cell? ⟨gl, 1, none⟩ = some (.int .i64 r) := (zb BKl.out 1).trans rfl
  have hc2 : W.cell? ⟨gl, 2, none⟩ = some (.int .i64 c) := (zb BKl.out 2).trans rfl
  have hc3 : W.cell? ⟨gl, 3, none⟩ = some (.slice A l.length cap) := (zb BKl.out 3).trans rfl
  have HR := Aside0.mk (Kd.zI hr hb)
  have HC := Aside0.mk hc
  have H1 := Aside0.mk h1
  have H2 := Aside0.mk h2
  have hu := Try.underlying29
  clear hq hm hr hc hb h1 h2
  go_enter Try.func20, Try.ntmps20
  go_wp2_with (first
    | (go_at_call 21; (with_reducible refine (zP.calls k p r c A cap l x t _ HR.out HC.out H1.out).mono ?_); rintro e w' ⟨rfl, hb_⟩; have HB_ := Aside0.mk hb_; clear hb_ hc0 hc1 hc2 hc3)
    | (go_at_call 22; (with_reducible refine (jM.calls x u _ H2.out).mono ?_); rintro e w' ⟨rfl, ⟨nd, rfl⟩⟩))
  go_ret
  exact ⟨by first | rfl | simp, by repeat (first | exact HB_.out | apply qf | apply z7)⟩
end Go.Proofs.Ytjlbfbpjcmjdfaa.F
end
section
namespace Go.Proofs.Ytjlbfbpjcmjdfaa.F
open Go.RowKit Go.Proofs.YtjlbfbpjcmjdfaaW.PrintWords Go.Proofs.YtjlbfbpjcmjdfaaW.PrintLast Go.Proofs.YtjlbfbpjcmjdfaaW.PrintMore
attribute [local go_sem] j9 j8 vO vV jO jP vl j6   -- for this text's walks alone
set_option linter.unusedVariables false
set_option linter.unusedSimpArgs false

def zH.f (k : Nat) (a0_0 : Int) (a0_1 : Int) (a0_2 : Int) (l0_3 : List Int) : Option (Int × List Int) := (zl.f k a0_0 a0_1 a0_2 l0_3).bind fun t235 => (if t235 = true then ((zR.f k a0_2 a0_0 a0_1 a0_2 l0_3).bind fun t236 => ((zY.f k a0_2 t236).bind fun bt239 => (some (bt239.1, bt239.2.1)))) else (some (0, ([] : List Int))))
def zH.T3 : Bool × List (List Nat × List Nat) := (true, [([], []), ([0], [0]), ([], []), ([2], [2]), ([], []), ([3, 4], [3, 4]), ([1, 5, 5], [1, 5]), ([6], [6]), ([7], [7]), ([7], [7]), ([], []), ([10, 8, 6, 0, 1, 2, 3, 4, 5, 6, 7, 8, 10], [8, 10]), ([9, 11, 0, 1, 2, 3, 4, 5, 6, 7, 8, 9, 10, 11], [9])])
def zH.B3 : List Nat := [0, 1, 0, 4, 0, 28, 63, 127, 255, 255, 0, 1535, 4095]
theorem zH.tab3 : vq .any (opsOf Try.f7 3) = zH.T3 := by kernel_rfl
theorem zH.zcN : vk zH.T3.2 zH.B3 = true := by kernel_rfl
theorem zH.calls (k : Nat) (a0_0 : Int) (a0_1 : Int) (a0_2 : Int) (A0_3 : Option Addr) (c0_3 : Nat) (l0_3 : List Int) (r1 : Int) (r2 : List Int) (w : World) (hr0_3 : Kd.C (Kd.int .i64) w A0_3 l0_3.length l0_3) (hc0_3 : l0_3.length ≤ c0_3) (h : zH.f k a0_0 a0_1 a0_2 l0_3 = some (r1, r2)) :
  Calls Try.prog 7 #[.agg #[.int .i64 a0_0, .int .i64 a0_1, .int .i64 a0_2, .slice A0_3 l0_3.length c0_3]] w fun e w' => ∃ v1_ : Value, e = .returned (.agg #[.int .i64 r1, v1_]) ∧ Kd.R (Kd.int .i64) 3 w' w.heap.size (fun _ => True) v1_ r2 ∧ Below w.heap.size w w' := by
 have hu29 := Try.underlying29
 have hu27 := Try.underlying27
 have HR0_3 := Aside0.mk hr0_3
 have HC0_3 := Aside0.mk hc0_3
 clear hr0_3 hc0_3
 have HB := Aside0.mk (Below.refl w.heap.size w)
 have H : ((zl.f k a0_0 a0_1 a0_2 l0_3).bind fun t235 => (if t235 = true then ((zR.f k a0_2 a0_0 a0_1 a0_2 l0_3).bind fun t236 => ((zY.f k a0_2 t236).bind fun bt239 => (some (bt239.1, bt239.2.1)))) else (some (0, ([] : List Int))))) = some (r1, r2) := h
 clear h
 replace H := Option.bind_eq_some_iff.mp H
 obtain ⟨t235, A20, H⟩ := H
 replace H : (if t235 = true then ((zR.f k a0_2 a0_0 a0_1 a0_2 l0_3).bind fun t236 => ((zY.f k a0_2 t236).bind fun bt239 => (some (bt239.1, bt239.2.1)))) else (some (0, ([] : List Int)))) = some (r1, r2) := H
 have A2 := Aside0.mk A20
 clear A20
 by_cases c3 : t235 = true
 ·subst c3
  have H1 : ((zR.f k a0_2 a0_0 a0_1 a0_2 l0_3).bind fun t236 => ((zY.f k a0_2 t236).bind fun bt239 => (some (bt239.1, bt239.2.1)))) = some (r1, r2) := by rw [if_pos rfl] at H; exact H
  clear H
  have H := H1
  clear H1
  replace H := Option.bind_eq_some_iff.mp H
  obtain ⟨t236, A40, H⟩ := H
  replace H : ((zY.f k a0_2 t236).bind fun bt239 => (some (bt239.1, bt239.2.1))) = some (r1, r2) := H
  have A4 := Aside0.mk A40
  clear A40
  replace H := Option.bind_eq_some_iff.mp H
  obtain ⟨⟨t239, t240, t243⟩, A50, H⟩ := H
  replace H : (some (t239, t240)) = some (r1, r2) := H
  have A5 := Aside0.mk A50
  clear A50
  simp only [Option.some.injEq, Prod.mk.injEq] at H
  obtain ⟨rfl, rfl⟩ := H
  go_enter Try.func7, Try.ntmps7
  try go_wp2_with (first | ((with_reducible refine zq (N := 1) rfl ?_); refine zo ?hg (N := 1) ?hd (cs := #[.int .i64 a0_0, .int .i64 a0_1, .int .i64 a0_2, .slice A0_3 l0_3.length c0_3]) (t := 29) ?hr ?_; (case hd => rfl); (case hg => rfl); (case hr => exact sqG); intro gb233 hg w6 hbox hb; have n0_ := Aside0.mk (ze sqB hb); have n1_ := Aside0.mk (hbox); have n2_ := Aside0.mk ((sqS hg : w.heap.size ≤ gb233)); have n3_ := Aside0.mk ((sqS hg : w.heap.size ≤ gb233)); clear HB; have HB := n0_; have BK233 := n1_; have GW233 := n2_; have GE233 := n3_; clear n0_ n1_ n2_ n3_; clear hb hbox hg) | ((with_reducible refine zq (N := 2) rfl ?_); refine zo ?hg (N := 2) ?hd (cs := #[.int .i64 0, .slice none 0 0]) (t := 27) ?hr ?_; (case hd => rfl); (case hg => rfl); (case hr => exact sqG); intro gb234 hg w7 hbox hb; have n0_ := Aside0.mk (zd (g := gb233) (o := .cells #[.int .i64 a0_0, .int .i64 a0_1, .int .i64 a0_2, .slice A0_3 l0_3.length c0_3] 29 (0, 0)) (sqK BK233.out) hb); have n1_ := Aside0.mk (ze sqB hb); have n2_ := Aside0.mk (hbox); have n3_ := Aside0.mk ((sqS hg : w.heap.size ≤ gb234)); have n4_ := Aside0.mk ((sqS hg : w.heap.size ≤ gb234)); have n5_ := Aside0.mk ((by rw [hg]; exact Nat.ne_of_lt (zz (g := gb233) (o := .cells #[.int .i64 a0_0, .int .i64 a0_1, .int .i64 a0_2, .slice A0_3 l0_3.length c0_3] 29 (0, 0)) (sqK BK233.out)) : gb233 ≠ gb234)); have n6_ := Aside0.mk ((by rw [hg]; exact Nat.ne_of_gt (zz (g := gb233) (o := .cells #[.int .i64 a0_0, .int .i64 a0_1, .int .i64 a0_2, .slice A0_3 l0_3.length c0_3] 29 (0, 0)) (sqK BK233.out)) : gb234 ≠ gb233)); clear BK233; clear HB; have BK233 := n0_; have HB := n1_; have BK234 := n2_; have GW234 := n3_; have GE234 := n4_; have NB233_234 := n5_; have NB234_233 := n6_; clear n0_ n1_ n2_ n3_ n4_ n5_ n6_; clear hb hbox hg; have hnb8 := NB233_234.out; have hnc8 := NB234_233.out; have hcz9_0 : w7.cell? ⟨gb233, 0, none⟩ = some (.int .i64 a0_0) := (zb BK233.out 0).trans rfl; have hcz9_1 : w7.cell? ⟨gb233, 1, none⟩ = some (.int .i64 a0_1) := (zb BK233.out 1).trans rfl; have hcz9_2 : w7.cell? ⟨gb233, 2, none⟩ = some (.int .i64 a0_2) := (zb BK233.out 2).trans rfl; have hcz9_3 : w7.cell? ⟨gb233, 3, none⟩ = some (.slice A0_3 l0_3.length c0_3) := (zb BK233.out 3).trans rfl; have hfz9_0 := za BK233.out 0; have hfz9_1 := za BK233.out 1; have hfz9_2 := za BK233.out 2; have hfz9_3 := za BK233.out 3) | ((with_reducible refine zf (f := 17) rfl ?_); refine zu (some 6) rfl rfl Try.func17 (by kernel_rfl) rfl #[.agg #[.int .i64 a0_0, .int .i64 a0_1, .int .i64 a0_2, .slice A0_3 l0_3.length c0_3]] rfl sqM ?_; (with_reducible refine (zl.calls k a0_0 a0_1 a0_2 _ _ l0_3 true _ ?side1 ?side2 A2.out).mono ?_); (case side1 => exact sqC (Kd.zI HR0_3.out HB.out)); (case side2 => exact HC0_3.out); rintro e w10 ⟨rfl, hb⟩; refine ⟨_, rfl, ?_⟩; have n0_ := Aside0.mk (zd (g := gb233) (o := .cells #[.int .i64 a0_0, .int .i64 a0_1, .int .i64 a0_2, .slice A0_3 l0_3.length c0_3] 29 (0, 0)) (sqK BK233.out) hb); have n1_ := Aside0.mk (zd (g := gb234) (o := .cells #[.int .i64 0, .slice none 0 0] 27 (0, 0)) (sqK BK234.out) hb); have n2_ := Aside0.mk (ze sqB hb); clear BK233; clear BK234; clear HB; have BK233 := n0_; have BK234 := n1_; have HB := n2_; clear n0_ n1_ n2_; (try clear hb); (try clear hb2); (try clear hk); (try clear hi)))
  have n0_ := Aside0.mk (qL BK233.out)
  have n1_ := Aside0.mk (qL BK234.out)
  have n2_ := Aside0.mk (qf HB.out)
  clear BK233 BK234 HB; have BK233 := n0_; have BK234 := n1_; have HB := n2_; clear n0_ n1_ n2_
  refine y2 (n := 13) (S := fun w' => w'.cell? ⟨gb233, 0, none⟩ = some (.int .i64 a0_0) ∧ w'.cell? ⟨gb233, 1, none⟩ = some (.int .i64 a0_1) ∧ w'.cell? ⟨gb233, 2, none⟩ = some (.int .i64 a0_2) ∧ w'.cell? ⟨gb233, 3, none⟩ = some (.slice A0_3 l0_3.length c0_3)) (ds := []) #[false, false, false, false, false, false, false, false, false, false, false, false, false] (by kernel_rfl) rfl rfl ⟨(zb BK233.out 0).trans rfl, (zb BK233.out 1).trans rfl, (zb BK233.out 2).trans rfl, (zb BK233.out 3).trans rfl⟩ (fun hHeld => ?_); refine vw zH.tab3 zH.zcN (fun HT_ HW_ => ?_)
  generalize w10.drew = w11 at BK233 BK234 HB hHeld ⊢
  refine zO (i := 0) (N := some 10) (v := ?_) (a' := ?_) #[true, false, false, false, false, false, false, false, false, false, false, false, false] rfl rfl (zv HT_.out (by kernel_rfl)) (fun _ _ _ h => h) (Or.inl ⟨by rfl, ?_⟩) ?_ ?_
  rotate_left
  ·intro w'; go_simp; with_reducible rfl
  rotate_left
  ·simp only [Act.put, List.setIfInBounds_toArray, List.set_cons_zero, List.set_cons_succ, zk, zm]; rfl
  refine zO (i := 2) (N := some 12) (v := ?_) (a' := ?_) #[true, false, true, false, false, false, false, false, false, false, false, false, false] rfl rfl (zv HT_.out (by kernel_rfl)) (fun _ _ _ h => h) (Or.inl ⟨by rfl, ?_⟩) ?_ ?_
  rotate_left
  ·intro w'; go_simp; with_reducible rfl
  rotate_left
  ·simp only [Act.put, List.setIfInBounds_toArray, List.set_cons_zero, List.set_cons_succ, zk, zm]; rfl
  refine jt (i := 1) (N := some 11) (v := ?_) (a' := ?_) #[true, true, true, false, false, false, false, false, false, false, false, false, false] rfl rfl (qE HT_.out HW_.out (by kernel_rfl)) (fun _ _ _ h => h) (Or.inl ⟨by rfl, ?_⟩) hHeld ?_ ?_
  rotate_left
  ·rintro w' ⟨s0, s1, s2, s3⟩; go_simp; with_reducible rfl
  rotate_left
  ·simp only [Act.put, List.setIfInBounds_toArray, List.set_cons_zero, List.set_cons_succ, zk, zm]; rfl
  refine jt (i := 3) (N := some 13) (v := ?_) (a' := ?_) #[true, true, true, true, false, false, false, false, false, false, false, false, false] rfl rfl (qE HT_.out HW_.out (by kernel_rfl)) (fun _ _ _ h => h) (Or.inl ⟨by rfl, ?_⟩) hHeld ?_ ?_
  rotate_left
  ·rintro w' ⟨s0, s1, s2, s3⟩; go_simp; with_reducible rfl
  rotate_left
  ·simp only [Act.put, List.setIfInBounds_toArray, List.set_cons_zero, List.set_cons_succ, zk, zm]; rfl
  refine zO (i := 4) (N := some 14) (v := ?_) (a' := ?_) #[true, true, true, true, true, false, false, false, false, false, false, false, false] rfl rfl (zv HT_.out (by kernel_rfl)) (fun _ _ _ h => h) (Or.inl ⟨by rfl, ?_⟩) ?_ ?_
  rotate_left
  ·intro w'; go_simp; with_reducible rfl
  rotate_left
  ·simp only [Act.put, List.setIfInBounds_toArray, List.set_cons_zero, List.set_cons_succ, zk, zm]; rfl
  refine zcF (σ := Value × Value × Nat) 2 #[true, true, true, true, true, true, true, true, true, true, true, false, false] (fun s_ => [(15, s_.1), (16, .tuple #[.agg #[.int .i64 t239, s_.2.1], .bool t243]), (3, .pointer (some ⟨s_.2.2, 0, none⟩)), (9, .tuple #[.agg #[.int .i64 t239, s_.2.1], .bool t243]), (17, .agg #[.int .i64 t239, s_.2.1]), (18, .bool t243)]) (fun s_ w' => (w'.cell? ⟨gb233, 0, none⟩ = some (.int .i64 a0_0) ∧ w'.cell? ⟨gb233, 1, none⟩ = some (.int .i64 a0_1) ∧ w'.cell? ⟨gb233, 2, none⟩ = some (.int .i64 a0_2) ∧ w'.cell? ⟨gb233, 3, none⟩ = some (.slice A0_3 l0_3.length c0_3)) ∧ (Kd.R (Kd.int .i64) 3 w' w.heap.size (fun k_ => some k_ ≠ (s_.2.1 : Value).ownBlock) s_.1 t236) ∧ (Kd.R (Kd.int .i64) 3 w' w.heap.size (fun k_ => some k_ ≠ (s_.1 : Value).ownBlock) s_.2.1 t240) ∧ (w'.heap[gb233]? = some (.cells #[.int .i64 a0_0, .int .i64 a0_1, .int .i64 a0_2, .slice A0_3 l0_3.length c0_3] 29 (0, 0))) ∧ (w'.heap[gb234]? = some (.cells #[.int .i64 0, .slice none 0 0] 27 (0, 0))) ∧ (w'.heap[s_.2.2]? = some (.cells #[.int .i64 0, .slice none 0 0] 27 (0, 0))) ∧ (w.heap.size ≤ s_.2.2) ∧ (w.heap.size ≤ s_.2.2) ∧ (gb233 ≠ s_.2.2) ∧ (s_.2.2 ≠ gb233) ∧ (gb234 ≠ s_.2.2) ∧ (s_.2.2 ≠ gb234) ∧ (Below w.heap.size w w')) ?_ ?_
  rotate_left
  ·intro hCont
   refine two_ (i := 5) (j := 10) (Ni := some 15) (Nj := some 3) #[true, true, true, true, true, true, false, false, false, false, false, false, false] #[true, true, true, true, true, false, false, false, false, false, true, false, false] rfl rfl rfl rfl (zat HT_.out (by kernel_rfl)) (by decide) (by decide) (fun K hK => ?_) (fun K hK => ?_)
   ·skip
    refine Zk Try.func19 (by kernel_rfl) rfl #[.int .i64 a0_2, .func (.func 20) #[] #[.pointer (some ⟨gb233, 0, none⟩)]] (by rfl) rfl rfl sqM ?_
    refine (ZU (zR.q k a0_0 a0_1 a0_2 l0_3) _ _ (enters_of Try.func20 (by kernel_rfl) rfl) k a0_2 t236 _ (zR.pred k a0_0 a0_1 a0_2 l0_3 _ _ gb233 _ (sqK BK233.out) (by exact sqC (Kd.zI HR0_3.out HB.out)) HC0_3.out) A4.out).mono ?_
    rintro e w12 ⟨v237, rfl, ho0, hb⟩
    refine ⟨_, rfl, ?_⟩
    have n0_ := Aside0.mk (Kd.qq ho0 (zB sqB))
    have n1_ := Aside0.mk (zd (g := gb233) (o := .cells #[.int .i64 a0_0, .int .i64 a0_1, .int .i64 a0_2, .slice A0_3 l0_3.length c0_3] 29 (0, 0)) (sqK BK233.out) hb)
    have n2_ := Aside0.mk (zd (g := gb234) (o := .cells #[.int .i64 0, .slice none 0 0] 27 (0, 0)) (sqK BK234.out) hb)
    have n3_ := Aside0.mk (ze sqB hb)
    clear BK233 BK234 HB; have HO238 := n0_; have BK233 := n1_; have BK234 := n2_; have HB := n3_; clear n0_ n1_ n2_ n3_; (try clear hb); (try clear hb2); (try clear hk); (try clear hi); (try clear ho0)
    obtain ⟨Ao13, co13, eo13⟩ := Kd.z8 HO238.out
    (first | subst eo13 | (injection eo13 with f1_ f2_ f3_; have f4_ := f1_.symm; have f5_ := f3_.symm; clear f1_ f2_ f3_; subst f4_; subst f5_))
    refine hK.out _ _ ⟨(zb BK233.out 0).trans rfl, (zb BK233.out 1).trans rfl, (zb BK233.out 2).trans rfl, (zb BK233.out 3).trans rfl⟩ (fun hHeld => ?_)
    clear hK K
    refine vt (a' := ?_) ?_ ?_
    rotate_left
    ·show Act.put _ (some 15) _ = _; simp only [Act.put, List.setIfInBounds_toArray, List.set_cons_zero, List.set_cons_succ, zk, zm]; rfl
    refine two_ (i := 6) (j := 10) (Ni := some 16) (Nj := some 3) #[true, true, true, true, true, true, true, false, false, false, false, false, false] #[true, true, true, true, true, true, false, false, false, false, true, false, false] rfl rfl rfl rfl (zat HT_.out (by kernel_rfl)) (by decide) (by decide) (fun K hK => ?_) (fun K hK => ?_)
    ·skip
     refine Zk Try.func18 (by kernel_rfl) rfl #[.int .i64 a0_2, .slice Ao13 t236.length co13] (by rfl) rfl rfl sqM ?_
     with_reducible refine (zY.calls k a0_2 _ _ t236 t239 t240 t243 _ ?side1 ?side2 A5.out).mono ?_
     (case side1 => exact sqC (Kd.zx HO238.out).2.2)
     (case side2 => exact (Kd.zx HO238.out).2.1)
     rintro e w14 ⟨v241, rfl, ho0, hb⟩
     refine ⟨_, rfl, ?_⟩
     have n0_ := Aside0.mk (Kd.qz (sqR HO238.out) (Kd.qS ho0) hb)
     have n1_ := Aside0.mk (Kd.qq (Kd.ja ho0 (Kd.vr (sqR HO238.out))) (zB sqB))
     have n2_ := Aside0.mk (zd (g := gb233) (o := .cells #[.int .i64 a0_0, .int .i64 a0_1, .int .i64 a0_2, .slice A0_3 l0_3.length c0_3] 29 (0, 0)) (sqK BK233.out) hb)
     have n3_ := Aside0.mk (zd (g := gb234) (o := .cells #[.int .i64 0, .slice none 0 0] 27 (0, 0)) (sqK BK234.out) hb)
     have n4_ := Aside0.mk (ze sqB hb)
     clear HO238 BK233 BK234 HB; have HO238 := n0_; have HO242 := n1_; have BK233 := n2_; have BK234 := n3_; have HB := n4_; clear n0_ n1_ n2_ n3_ n4_; (try clear hb); (try clear hb2); (try clear hk); (try clear hi); (try clear ho0)
     refine hK.out _ _ ⟨(zb BK233.out 0).trans rfl, (zb BK233.out 1).trans rfl, (zb BK233.out 2).trans rfl, (zb BK233.out 3).trans rfl⟩ (fun hHeld => ?_)
     clear hK K
     refine vt (a' := ?_) ?_ ?_
     rotate_left
     ·show Act.put _ (some 16) _ = _; simp only [Act.put, List.setIfInBounds_toArray, List.set_cons_zero, List.set_cons_succ, zk, zm]; rfl
     refine zO (i := 7) (N := some 9) (v := ?_) (a' := ?_) #[true, true, true, true, true, true, true, true, false, false, false, false, false] rfl rfl (zv HT_.out (by kernel_rfl)) (fun _ _ _ h => h) (Or.inl ⟨by rfl, ?_⟩) ?_ ?_
     rotate_left
     ·intro w'; go_simp; with_reducible rfl
     rotate_left
     ·simp only [Act.put, List.setIfInBounds_toArray, List.set_cons_zero, List.set_cons_succ, zk, zm]; rfl
     refine zO (i := 8) (N := some 17) (v := ?_) (a' := ?_) #[true, true, true, true, true, true, true, true, true, false, false, false, false] rfl rfl (zv HT_.out (by kernel_rfl)) (fun _ _ _ h => h) (Or.inl ⟨by rfl, ?_⟩) ?_ ?_
     rotate_left
     ·intro w'; go_simp; with_reducible rfl
     rotate_left
     ·simp only [Act.put, List.setIfInBounds_toArray, List.set_cons_zero, List.set_cons_succ, zk, zm]; rfl
     refine zO (i := 9) (N := some 18) (v := ?_) (a' := ?_) #[true, true, true, true, true, true, true, true, true, true, false, false, false] rfl rfl (zv HT_.out (by kernel_rfl)) (fun _ _ _ h => h) (Or.inl ⟨by rfl, ?_⟩) ?_ ?_
     rotate_left
     ·intro w'; go_simp; with_reducible rfl
     rotate_left
     ·simp only [Act.put, List.setIfInBounds_toArray, List.set_cons_zero, List.set_cons_succ, zk, zm]; rfl
     refine Jb (i := 10) (N := some 3) #[true, true, true, true, true, true, true, true, true, true, true, false, false] rfl rfl (jX HT_.out (by kernel_rfl)) (by decide) (fun K hK => ?_)
     refine QO ?hg (N := 3) ?hd (cs := #[.int .i64 0, .slice none 0 0]) (t := 27) ?hr ?_; (case hd => rfl); (case hg => rfl); (case hr => exact sqG)
     intro gb244 hg w15 hbox hb
     have n0_ := Aside0.mk (Kd.zE (sqR HO238.out) hb)
     have n1_ := Aside0.mk (Kd.zE (sqR HO242.out) hb)
     have n2_ := Aside0.mk (zd (g := gb233) (o := .cells #[.int .i64 a0_0, .int .i64 a0_1, .int .i64 a0_2, .slice A0_3 l0_3.length c0_3] 29 (0, 0)) (sqK BK233.out) hb)
     have n3_ := Aside0.mk (zd (g := gb234) (o := .cells #[.int .i64 0, .slice none 0 0] 27 (0, 0)) (sqK BK234.out) hb)
     have n4_ := Aside0.mk (ze sqB hb)
     have n5_ := Aside0.mk (hbox)
     have n6_ := Aside0.mk ((sqS hg : w.heap.size ≤ gb244))
     have n7_ := Aside0.mk ((sqS hg : w.heap.size ≤ gb244))
     have n8_ := Aside0.mk ((by rw [hg]; exact Nat.ne_of_lt (zz (g := gb233) (o := .cells #[.int .i64 a0_0, .int .i64 a0_1, .int .i64 a0_2, .slice A0_3 l0_3.length c0_3] 29 (0, 0)) (sqK BK233.out)) : gb233 ≠ gb244))
     have n9_ := Aside0.mk ((by rw [hg]; exact Nat.ne_of_gt (zz (g := gb233) (o := .cells #[.int .i64 a0_0, .int .i64 a0_1, .int .i64 a0_2, .slice A0_3 l0_3.length c0_3] 29 (0, 0)) (sqK BK233.out)) : gb244 ≠ gb233))
     have n10_ := Aside0.mk ((by rw [hg]; exact Nat.ne_of_lt (zz (g := gb234) (o := .cells #[.int .i64 0, .slice none 0 0] 27 (0, 0)) (sqK BK234.out)) : gb234 ≠ gb244))
     have n11_ := Aside0.mk ((by rw [hg]; exact Nat.ne_of_gt (zz (g := gb234) (o := .cells #[.int .i64 0, .slice none 0 0] 27 (0, 0)) (sqK BK234.out)) : gb244 ≠ gb234))
     clear HO238 HO242 BK233 BK234 HB; have HO238 := n0_; have HO242 := n1_; have BK233 := n2_; have BK234 := n3_; have HB := n4_; have BK244 := n5_; have GW244 := n6_; have GE244 := n7_; have NB233_244 := n8_; have NB244_233 := n9_; have NB234_244 := n10_; have NB244_234 := n11_; clear n0_ n1_ n2_ n3_ n4_ n5_ n6_ n7_ n8_ n9_ n10_ n11_ hb hbox hg
     refine hK.out _ _ ⟨(zb BK233.out 0).trans rfl, (zb BK233.out 1).trans rfl, (zb BK233.out 2).trans rfl, (zb BK233.out 3).trans rfl⟩ (fun hHeld => ?_)
     clear hK K
     refine vt (a' := ?_) ?_ ?_
     rotate_left
     ·show Act.put _ (some 3) _ = _; simp only [Act.put, List.setIfInBounds_toArray, List.set_cons_zero, List.set_cons_succ, zk, zm]; rfl
     exact vt (by simp only [Zv, Act.put, List.setIfInBounds_toArray, List.set_cons_zero, List.set_cons_succ]) (hCont (.slice Ao13 t236.length co13, v241, gb244) _ ⟨hHeld, (by refine sqR ?_; exact Kd.zy HO238.out (fun _ hk => hk.2)), (by refine sqR ?_; exact Kd.zy HO242.out (fun _ hk => hk.2)), (sqK BK233.out), (sqK BK234.out), (sqK BK244.out), GW244.out, GE244.out, NB233_244.out, NB244_233.out, NB234_244.out, NB244_234.out, sqB⟩)
    ·skip
     refine QO ?hg (N := 3) ?hd (cs := #[.int .i64 0, .slice none 0 0]) (t := 27) ?hr ?_; (case hd => rfl); (case hg => rfl); (case hr => exact sqG)
     intro gb244 hg w13 hbox hb
     have n0_ := Aside0.mk (Kd.zE (sqR HO238.out) hb)
     have n1_ := Aside0.mk (zd (g := gb233) (o := .cells #[.int .i64 a0_0, .int .i64 a0_1, .int .i64 a0_2, .slice A0_3 l0_3.length c0_3] 29 (0, 0)) (sqK BK233.out) hb)
     have n2_ := Aside0.mk (zd (g := gb234) (o := .cells #[.int .i64 0, .slice none 0 0] 27 (0, 0)) (sqK BK234.out) hb)
     have n3_ := Aside0.mk (ze sqB hb)
     have n4_ := Aside0.mk (hbox)
     have n5_ := Aside0.mk ((sqS hg : w.heap.size ≤ gb244))
     have n6_ := Aside0.mk ((sqS hg : w.heap.size ≤ gb244))
     have n7_ := Aside0.mk ((by rw [hg]; exact Nat.ne_of_lt (zz (g := gb233) (o := .cells #[.int .i64 a0_0, .int .i64 a0_1, .int .i64 a0_2, .slice A0_3 l0_3.length c0_3] 29 (0, 0)) (sqK BK233.out)) : gb233 ≠ gb244))
     have n8_ := Aside0.mk ((by rw [hg]; exact Nat.ne_of_gt (zz (g := gb233) (o := .cells #[.int .i64 a0_0, .int .i64 a0_1, .int .i64 a0_2, .slice A0_3 l0_3.length c0_3] 29 (0, 0)) (sqK BK233.out)) : gb244 ≠ gb233))
     have n9_ := Aside0.mk ((by rw [hg]; exact Nat.ne_of_lt (zz (g := gb234) (o := .cells #[.int .i64 0, .slice none 0 0] 27 (0, 0)) (sqK BK234.out)) : gb234 ≠ gb244))
     have n10_ := Aside0.mk ((by rw [hg]; exact Nat.ne_of_gt (zz (g := gb234) (o := .cells #[.int .i64 0, .slice none 0 0] 27 (0, 0)) (sqK BK234.out)) : gb244 ≠ gb234))
     clear HO238 BK233 BK234 HB; have HO238 := n0_; have BK233 := n1_; have BK234 := n2_; have HB := n3_; have BK244 := n4_; have GW244 := n5_; have GE244 := n6_; have NB233_244 := n7_; have NB244_233 := n8_; have NB234_244 := n9_; have NB244_234 := n10_; clear n0_ n1_ n2_ n3_ n4_ n5_ n6_ n7_ n8_ n9_ n10_ hb hbox hg
     obtain ⟨Ao14, co14, eo14⟩ := Kd.z8 HO238.out
     (first | subst eo14 | (injection eo14 with f1_ f2_ f3_; have f4_ := f1_.symm; have f5_ := f3_.symm; clear f1_ f2_ f3_; subst f4_; subst f5_))
     refine hK.out _ _ ⟨(zb BK233.out 0).trans rfl, (zb BK233.out 1).trans rfl, (zb BK233.out 2).trans rfl, (zb BK233.out 3).trans rfl⟩ (fun hHeld => ?_)
     clear hK K
     refine vt (a' := ?_) ?_ ?_
     rotate_left
     ·show Act.put _ (some 3) _ = _; simp only [Act.put, List.setIfInBounds_toArray, List.set_cons_zero, List.set_cons_succ, zk, zm]; rfl
     refine Jb (i := 6) (N := some 16) #[true, true, true, true, true, true, true, false, false, false, true, false, false] rfl rfl (jX HT_.out (by kernel_rfl)) (by decide) (fun K hK => ?_)
     refine Zk Try.func18 (by kernel_rfl) rfl #[.int .i64 a0_2, .slice Ao14 t236.length co14] (by rfl) rfl rfl sqM ?_
     with_reducible refine (zY.calls k a0_2 _ _ t236 t239 t240 t243 _ ?side1 ?side2 A5.out).mono ?_
     (case side1 => exact sqC (Kd.zx HO238.out).2.2)
     (case side2 => exact (Kd.zx HO238.out).2.1)
     rintro e w15 ⟨v241, rfl, ho0, hb⟩
     refine ⟨_, rfl, ?_⟩
     have n0_ := Aside0.mk (Kd.qz (sqR HO238.out) (Kd.qS ho0) hb)
     have n1_ := Aside0.mk (Kd.qq (Kd.ja ho0 (Kd.vr (sqR HO238.out))) (zB sqB))
     have n2_ := Aside0.mk (zd (g := gb233) (o := .cells #[.int .i64 a0_0, .int .i64 a0_1, .int .i64 a0_2, .slice A0_3 l0_3.length c0_3] 29 (0, 0)) (sqK BK233.out) hb)
     have n3_ := Aside0.mk (zd (g := gb234) (o := .cells #[.int .i64 0, .slice none 0 0] 27 (0, 0)) (sqK BK234.out) hb)
     have n4_ := Aside0.mk (zd (g := gb244) (o := .cells #[.int .i64 0, .slice none 0 0] 27 (0, 0)) (sqK BK244.out) hb)
     have n5_ := Aside0.mk (ze sqB hb)
     clear HO238 BK233 BK234 BK244 HB; have HO238 := n0_; have HO242 := n1_; have BK233 := n2_; have BK234 := n3_; have BK244 := n4_; have HB := n5_; clear n0_ n1_ n2_ n3_ n4_ n5_; (try clear hb); (try clear hb2); (try clear hk); (try clear hi); (try clear ho0)
     refine hK.out _ _ ⟨(zb BK233.out 0).trans rfl, (zb BK233.out 1).trans rfl, (zb BK233.out 2).trans rfl, (zb BK233.out 3).trans rfl⟩ (fun hHeld => ?_)
     clear hK K
     refine vt (a' := ?_) ?_ ?_
     rotate_left
     ·show Act.put _ (some 16) _ = _; simp only [Act.put, List.setIfInBounds_toArray, List.set_cons_zero, List.set_cons_succ, zk, zm]; rfl
     refine zO (i := 7) (N := some 9) (v := ?_) (a' := ?_) #[true, true, true, true, true, true, true, true, false, false, true, false, false] rfl rfl (zv HT_.out (by kernel_rfl)) (fun _ _ _ h => h) (Or.inl ⟨by rfl, ?_⟩) ?_ ?_
     rotate_left
     ·intro w'; go_simp; with_reducible rfl
     rotate_left
     ·simp only [Act.put, List.setIfInBounds_toArray, List.set_cons_zero, List.set_cons_succ, zk, zm]; rfl
     refine zO (i := 8) (N := some 17) (v := ?_) (a' := ?_) #[true, true, true, true, true, true, true, true, true, false, true, false, false] rfl rfl (zv HT_.out (by kernel_rfl)) (fun _ _ _ h => h) (Or.inl ⟨by rfl, ?_⟩) ?_ ?_
     rotate_left
     ·intro w'; go_simp; with_reducible rfl
     rotate_left
     ·simp only [Act.put, List.setIfInBounds_toArray, List.set_cons_zero, List.set_cons_succ, zk, zm]; rfl
     refine zO (i := 9) (N := some 18) (v := ?_) (a' := ?_) #[true, true, true, true, true, true, true, true, true, true, true, false, false] rfl rfl (zv HT_.out (by kernel_rfl)) (fun _ _ _ h => h) (Or.inl ⟨by rfl, ?_⟩) ?_ ?_
     rotate_left
     ·intro w'; go_simp; with_reducible rfl
     rotate_left
     ·simp only [Act.put, List.setIfInBounds_toArray, List.set_cons_zero, List.set_cons_succ, zk, zm]; rfl
     exact vt (by simp only [Zv, Act.put, List.setIfInBounds_toArray, List.set_cons_zero, List.set_cons_succ]) (hCont (.slice Ao14 t236.length co14, v241, gb244) _ ⟨hHeld, (by refine sqR ?_; exact Kd.zy HO238.out (fun _ hk => hk.2)), (by refine sqR ?_; exact Kd.zy HO242.out (fun _ hk => hk.2)), (sqK BK233.out), (sqK BK234.out), (sqK BK244.out), GW244.out, GE244.out, NB233_244.out, NB244_233.out, NB234_244.out, NB244_234.out, sqB⟩)
   ·skip
    refine QO ?hg (N := 3) ?hd (cs := #[.int .i64 0, .slice none 0 0]) (t := 27) ?hr ?_; (case hd => rfl); (case hg => rfl); (case hr => exact sqG)
    intro gb244 hg w12 hbox hb
    have n0_ := Aside0.mk (zd (g := gb233) (o := .cells #[.int .i64 a0_0, .int .i64 a0_1, .int .i64 a0_2, .slice A0_3 l0_3.length c0_3] 29 (0, 0)) (sqK BK233.out) hb)
    have n1_ := Aside0.mk (zd (g := gb234) (o := .cells #[.int .i64 0, .slice none 0 0] 27 (0, 0)) (sqK BK234.out) hb)
    have n2_ := Aside0.mk (ze sqB hb)
    have n3_ := Aside0.mk (hbox)
    have n4_ := Aside0.mk ((sqS hg : w.heap.size ≤ gb244))
    have n5_ := Aside0.mk ((sqS hg : w.heap.size ≤ gb244))
    have n6_ := Aside0.mk ((by rw [hg]; exact Nat.ne_of_lt (zz (g := gb233) (o := .cells #[.int .i64 a0_0, .int .i64 a0_1, .int .i64 a0_2, .slice A0_3 l0_3.length c0_3] 29 (0, 0)) (sqK BK233.out)) : gb233 ≠ gb244))
    have n7_ := Aside0.mk ((by rw [hg]; exact Nat.ne_of_gt (zz (g := gb233) (o := .cells #[.int .i64 a0_0, .int .i64 a0_1, .int .i64 a0_2, .slice A0_3 l0_3.length c0_3] 29 (0, 0)) (sqK BK233.out)) : gb244 ≠ gb233))
    have n8_ := Aside0.mk ((by rw [hg]; exact Nat.ne_of_lt (zz (g := gb234) (o := .cells #[.int .i64 0, .slice none 0 0] 27 (0, 0)) (sqK BK234.out)) : gb234 ≠ gb244))
    have n9_ := Aside0.mk ((by rw [hg]; exact Nat.ne_of_gt (zz (g := gb234) (o := .cells #[.int .i64 0, .slice none 0 0] 27 (0, 0)) (sqK BK234.out)) : gb244 ≠ gb234))
    clear BK233 BK234 HB; have BK233 := n0_; have BK234 := n1_; have HB := n2_; have BK244 := n3_; have GW244 := n4_; have GE244 := n5_; have NB233_244 := n6_; have NB244_233 := n7_; have NB234_244 := n8_; have NB244_234 := n9_; clear n0_ n1_ n2_ n3_ n4_ n5_ n6_ n7_ n8_ n9_ hb hbox hg
    refine hK.out _ _ ⟨(zb BK233.out 0).trans rfl, (zb BK233.out 1).trans rfl, (zb BK233.out 2).trans rfl, (zb BK233.out 3).trans rfl⟩ (fun hHeld => ?_)
    clear hK K
    refine vt (a' := ?_) ?_ ?_
    rotate_left
    ·show Act.put _ (some 3) _ = _; simp only [Act.put, List.setIfInBounds_toArray, List.set_cons_zero, List.set_cons_succ, zk, zm]; rfl
    refine Jb (i := 5) (N := some 15) #[true, true, true, true, true, true, false, false, false, false, true, false, false] rfl rfl (jX HT_.out (by kernel_rfl)) (by decide) (fun K hK => ?_)
    refine Zk Try.func19 (by kernel_rfl) rfl #[.int .i64 a0_2, .func (.func 20) #[] #[.pointer (some ⟨gb233, 0, none⟩)]] (by rfl) rfl rfl sqM ?_
    refine (ZU (zR.q k a0_0 a0_1 a0_2 l0_3) _ _ (enters_of Try.func20 (by kernel_rfl) rfl) k a0_2 t236 _ (zR.pred k a0_0 a0_1 a0_2 l0_3 _ _ gb233 _ (sqK BK233.out) (by exact sqC (Kd.zI HR0_3.out HB.out)) HC0_3.out) A4.out).mono ?_
    rintro e w13 ⟨v237, rfl, ho0, hb⟩
    refine ⟨_, rfl, ?_⟩
    have n0_ := Aside0.mk (Kd.qq ho0 (zB sqB))
    have n1_ := Aside0.mk (zd (g := gb233) (o := .cells #[.int .i64 a0_0, .int .i64 a0_1, .int .i64 a0_2, .slice A0_3 l0_3.length c0_3] 29 (0, 0)) (sqK BK233.out) hb)
    have n2_ := Aside0.mk (zd (g := gb234) (o := .cells #[.int .i64 0, .slice none 0 0] 27 (0, 0)) (sqK BK234.out) hb)
    have n3_ := Aside0.mk (zd (g := gb244) (o := .cells #[.int .i64 0, .slice none 0 0] 27 (0, 0)) (sqK BK244.out) hb)
    have n4_ := Aside0.mk (ze sqB hb)
    clear BK233 BK234 BK244 HB; have HO238 := n0_; have BK233 := n1_; have BK234 := n2_; have BK244 := n3_; have HB := n4_; clear n0_ n1_ n2_ n3_ n4_; (try clear hb); (try clear hb2); (try clear hk); (try clear hi); (try clear ho0)
    obtain ⟨Ao14, co14, eo14⟩ := Kd.z8 HO238.out
    (first | subst eo14 | (injection eo14 with f1_ f2_ f3_; have f4_ := f1_.symm; have f5_ := f3_.symm; clear f1_ f2_ f3_; subst f4_; subst f5_))
    refine hK.out _ _ ⟨(zb BK233.out 0).trans rfl, (zb BK233.out 1).trans rfl, (zb BK233.out 2).trans rfl, (zb BK233.out 3).trans rfl⟩ (fun hHeld => ?_)
    clear hK K
    refine vt (a' := ?_) ?_ ?_
    rotate_left
    ·show Act.put _ (some 15) _ = _; simp only [Act.put, List.setIfInBounds_toArray, List.set_cons_zero, List.set_cons_succ, zk, zm]; rfl
    refine Jb (i := 6) (N := some 16) #[true, true, true, true, true, true, true, false, false, false, true, false, false] rfl rfl (jX HT_.out (by kernel_rfl)) (by decide) (fun K hK => ?_)
    refine Zk Try.func18 (by kernel_rfl) rfl #[.int .i64 a0_2, .slice Ao14 t236.length co14] (by rfl) rfl rfl sqM ?_
    with_reducible refine (zY.calls k a0_2 _ _ t236 t239 t240 t243 _ ?side1 ?side2 A5.out).mono ?_
    (case side1 => exact sqC (Kd.zx HO238.out).2.2)
    (case side2 => exact (Kd.zx HO238.out).2.1)
    rintro e w15 ⟨v241, rfl, ho0, hb⟩
    refine ⟨_, rfl, ?_⟩
    have n0_ := Aside0.mk (Kd.qz (sqR HO238.out) (Kd.qS ho0) hb)
    have n1_ := Aside0.mk (Kd.qq (Kd.ja ho0 (Kd.vr (sqR HO238.out))) (zB sqB))
    have n2_ := Aside0.mk (zd (g := gb233) (o := .cells #[.int .i64 a0_0, .int .i64 a0_1, .int .i64 a0_2, .slice A0_3 l0_3.length c0_3] 29 (0, 0)) (sqK BK233.out) hb)
    have n3_ := Aside0.mk (zd (g := gb234) (o := .cells #[.int .i64 0, .slice none 0 0] 27 (0, 0)) (sqK BK234.out) hb)
    have n4_ := Aside0.mk (zd (g := gb244) (o := .cells #[.int .i64 0, .slice none 0 0] 27 (0, 0)) (sqK BK244.out) hb)
    have n5_ := Aside0.mk (ze sqB hb)
    clear HO238 BK233 BK234 BK244 HB; have HO238 := n0_; have HO242 := n1_; have BK233 := n2_; have BK234 := n3_; have BK244 := n4_; have HB := n5_; clear n0_ n1_ n2_ n3_ n4_ n5_; (try clear hb); (try clear hb2); (try clear hk); (try clear hi); (try clear ho0)
    refine hK.out _ _ ⟨(zb BK233.out 0).trans rfl, (zb BK233.out 1).trans rfl, (zb BK233.out 2).trans rfl, (zb BK233.out 3).trans rfl⟩ (fun hHeld => ?_)
    clear hK K
    refine vt (a' := ?_) ?_ ?_
    rotate_left
    ·show Act.put _ (some 16) _ = _; simp only [Act.put, List.setIfInBounds_toArray, List.set_cons_zero, List.set_cons_succ, zk, zm]; rfl
    refine zO (i := 7) (N := some 9) (v := ?_) (a' := ?_) #[true, true, true, true, true, true, true, true, false, false, true, false, false] rfl rfl (zv HT_.out (by kernel_rfl)) (fun _ _ _ h => h) (Or.inl ⟨by rfl, ?_⟩) ?_ ?_
    rotate_left
    ·intro w'; go_simp; with_reducible rfl
    rotate_left
    ·simp only [Act.put, List.setIfInBounds_toArray, List.set_cons_zero, List.set_cons_succ, zk, zm]; rfl
    refine zO (i := 8) (N := some 17) (v := ?_) (a' := ?_) #[true, true, true, true, true, true, true, true, true, false, true, false, false] rfl rfl (zv HT_.out (by kernel_rfl)) (fun _ _ _ h => h) (Or.inl ⟨by rfl, ?_⟩) ?_ ?_
    rotate_left
    ·intro w'; go_simp; with_reducible rfl
    rotate_left
    ·simp only [Act.put, List.setIfInBounds_toArray, List.set_cons_zero, List.set_cons_succ, zk, zm]; rfl
    refine zO (i := 9) (N := some 18) (v := ?_) (a' := ?_) #[true, true, true, true, true, true, true, true, true, true, true, false, false] rfl rfl (zv HT_.out (by kernel_rfl)) (fun _ _ _ h => h) (Or.inl ⟨by rfl, ?_⟩) ?_ ?_
    rotate_left
    ·intro w'; go_simp; with_reducible rfl
    rotate_left
    ·simp only [Act.put, List.setIfInBounds_toArray, List.set_cons_zero, List.set_cons_succ, zk, zm]; rfl
    exact vt (by simp only [Zv, Act.put, List.setIfInBounds_toArray, List.set_cons_zero, List.set_cons_succ]) (hCont (.slice Ao14 t236.length co14, v241, gb244) _ ⟨hHeld, (by refine sqR ?_; exact Kd.zy HO238.out (fun _ hk => hk.2)), (by refine sqR ?_; exact Kd.zy HO242.out (fun _ hk => hk.2)), (sqK BK233.out), (sqK BK234.out), (sqK BK244.out), GW244.out, GE244.out, NB233_244.out, NB244_233.out, NB234_244.out, NB244_234.out, sqB⟩)
  rintro ⟨v237, v241, gb244⟩ w16 ⟨hS_, h0_, h1_, h2_, h3_, h4_, h5_, h6_, h7_, h8_, h9_, h10_, h11_⟩
  have n0_ : Aside0 (Kd.R (Kd.int .i64) 3 w16 w.heap.size (fun k_ => some k_ ≠ (v241 : Value).ownBlock) v237 t236) := ⟨h0_⟩
  have n1_ : Aside0 (Kd.R (Kd.int .i64) 3 w16 w.heap.size (fun k_ => some k_ ≠ (v237 : Value).ownBlock) v241 t240) := ⟨h1_⟩
  have n2_ : Aside0 (w16.heap[gb233]? = some (.cells #[.int .i64 a0_0, .int .i64 a0_1, .int .i64 a0_2, .slice A0_3 l0_3.length c0_3] 29 (0, 0))) := ⟨h2_⟩
  have n3_ : Aside0 (w16.heap[gb234]? = some (.cells #[.int .i64 0, .slice none 0 0] 27 (0, 0))) := ⟨h3_⟩
  have n4_ : Aside0 (w16.heap[gb244]? = some (.cells #[.int .i64 0, .slice none 0 0] 27 (0, 0))) := ⟨h4_⟩
  have n5_ : Aside0 (w.heap.size ≤ gb244) := ⟨h5_⟩
  have n6_ : Aside0 (w.heap.size ≤ gb244) := ⟨h6_⟩
  have n7_ : Aside0 (gb233 ≠ gb244) := ⟨h7_⟩
  have n8_ : Aside0 (gb244 ≠ gb233) := ⟨h8_⟩
  have n9_ : Aside0 (gb234 ≠ gb244) := ⟨h9_⟩
  have n10_ : Aside0 (gb244 ≠ gb234) := ⟨h10_⟩
  have n11_ : Aside0 (Below w.heap.size w w16) := ⟨h11_⟩
  clear BK233 BK234 HB h0_ h1_ h2_ h3_ h4_ h5_ h6_ h7_ h8_ h9_ h10_ h11_; have HO238 := n0_; have HO242 := n1_; have BK233 := n2_; have BK234 := n3_; have BK244 := n4_; have GW244 := n5_; have GE244 := n6_; have NB233_244 := n7_; have NB244_233 := n8_; have NB234_244 := n9_; have NB244_234 := n10_; have HB := n11_; clear n0_ n1_ n2_ n3_ n4_ n5_ n6_ n7_ n8_ n9_ n10_ n11_
  have hHeld : w16.cell? ⟨gb233, 0, none⟩ = some (.int .i64 a0_0) ∧ w16.cell? ⟨gb233, 1, none⟩ = some (.int .i64 a0_1) ∧ w16.cell? ⟨gb233, 2, none⟩ = some (.int .i64 a0_2) ∧ w16.cell? ⟨gb233, 3, none⟩ = some (.slice A0_3 l0_3.length c0_3) := hS_
  obtain ⟨Ao18, co18, eo18⟩ := Kd.z8 HO242.out
  (first | subst eo18 | (injection eo18 with f1_ f2_ f3_; have f4_ := f1_.symm; have f5_ := f3_.symm; clear f1_ f2_ f3_; subst f4_; subst f5_))
  refine vt (a' := ?_) ?_ ?_
  rotate_left
  ·simp only [Zv, Act.put, List.setIfInBounds_toArray, List.set_cons_zero, List.set_cons_succ]
   rfl
  refine Jb (i := 11) (N := none) #[true, true, true, true, true, true, true, true, true, true, true, true, false] rfl rfl (jX HT_.out (by kernel_rfl)) (by decide) (fun K hK => ?_)
  have hs17 : w16.cell? ⟨gb244, 0, none⟩ = some (.int .i64 0) := (zb BK244.out 0).trans rfl
  have hfs17 := za BK244.out 0
  have hns17_0 := NB233_244.out
  have hns17_1 := NB234_244.out
  have hms17_0 := NB244_233.out
  have hms17_1 := NB244_234.out
  have hs19 : w16.cell? ⟨gb244, 1, none⟩ = some (.slice none 0 0) := (zb BK244.out 1).trans rfl
  have hfs19 := za BK244.out 1
  have hns19_0 := NB233_244.out
  have hns19_1 := NB234_244.out
  have hms19_0 := NB244_233.out
  have hms19_1 := NB244_234.out
  refine QV (w1 := ?_) (by rfl) rfl ?_ ?_
  rotate_left
  ·go_simp
   rfl
  refine hK.out _ _ ⟨((cell_far (p := ⟨gb244, _, none⟩) NB233_244.out _).trans (((cell_far (p := ⟨gb244, _, none⟩) NB233_244.out _).trans (hHeld.1)))), ((cell_far (p := ⟨gb244, _, none⟩) NB233_244.out _).trans (((cell_far (p := ⟨gb244, _, none⟩) NB233_244.out _).trans (hHeld.2.1)))), ((cell_far (p := ⟨gb244, _, none⟩) NB233_244.out _).trans (((cell_far (p := ⟨gb244, _, none⟩) NB233_244.out _).trans (hHeld.2.2.1)))), ((cell_far (p := ⟨gb244, _, none⟩) NB233_244.out _).trans (((cell_far (p := ⟨gb244, _, none⟩) NB233_244.out _).trans (hHeld.2.2.2))))⟩ (fun hHeld => ?_)
  clear hK K
  refine zO (i := 12) (N := some 4) (v := ?_) (a' := ?_) #[true, true, true, true, true, true, true, true, true, true, true, true, true] rfl rfl (zv HT_.out (by kernel_rfl)) (fun _ _ _ h => h) (Or.inl ⟨by rfl, ?_⟩) ?_ ?_
  rotate_left
  ·intro w'; go_simp; with_reducible rfl
  rotate_left
  ·simp only [Act.put, List.setIfInBounds_toArray, List.set_cons_zero, List.set_cons_succ, zk, zm]; rfl
  refine Qx (yJ HT_.out (by kernel_rfl)) ?_
  have hnb20 := NB244_233.out
  have hnc20 := NB233_244.out
  have hnb21 := NB244_234.out
  have hnc21 := NB234_244.out
  have hcz22_0 : w16.cell? ⟨gb244, 0, none⟩ = some (.int .i64 0) := (zb BK244.out 0).trans rfl
  have hcz22_1 : w16.cell? ⟨gb244, 1, none⟩ = some (.slice none 0 0) := (zb BK244.out 1).trans rfl
  have hfz22_0 := za BK244.out 0; have hfz22_1 := za BK244.out 1
  have hcz23_0 : w16.cell? ⟨gb234, 0, none⟩ = some (.int .i64 0) := (zb BK234.out 0).trans rfl
  have hcz23_1 : w16.cell? ⟨gb234, 1, none⟩ = some (.slice none 0 0) := (zb BK234.out 1).trans rfl
  have hfz23_0 := za BK234.out 0; have hfz23_1 := za BK234.out 1
  try go_wp2
  refine bodyPost_ret (results_cell_row rfl _ _ gb234 27 #[.int .i64 t239, .slice Ao18 t240.length co18] (0, 0) _ rfl (by refine sqK ?_; refine zL (cs := #[.int .i64 t239, .slice none 0 0]) ?_ 1 _ rfl; refine sqK ?_; refine zL (cs := #[.int .i64 0, .slice none 0 0]) ?_ 0 _ rfl; refine sqK ?_; refine zJ ?_ NB234_244.out _; refine sqK ?_; refine zJ ?_ NB234_244.out _; refine sqK ?_; exact BK234.out) Try.underlying27 rfl (by kernel_rfl)) rfl ?_
  exact ⟨_, sqE, by refine sqR ?_; exact Kd.zy (Kd.zF (p := ⟨gb234, 1, none⟩) (Kd.zF (p := ⟨gb234, 0, none⟩) (Kd.zF (p := ⟨gb244, 1, none⟩) (Kd.zF (p := ⟨gb244, 0, none⟩) (Kd.zV (Kd.zV HO242.out BK244.out (by decide)) BK234.out (by decide)) (fun _ hk => hk.1.2) (.int .i64 t239)) (fun _ hk => hk.1.2) (.slice Ao18 t240.length co18)) (fun _ hk => hk.2) (.int .i64 t239)) (fun _ hk => hk.2) (.slice Ao18 t240.length co18)) (fun _ hk => trivial), sqB⟩
 ·replace c3 := Bool.eq_false_iff.mpr c3
  subst c3
  have H1 : (some (0, ([] : List Int))) = some (r1, r2) := by rw [if_neg (show ¬ (false = true) by decide)] at H; exact H
  clear H
  have H := H1
  clear H1
  simp only [Option.some.injEq, Prod.mk.injEq] at H
  obtain ⟨rfl, rfl⟩ := H
  go_enter Try.func7, Try.ntmps7
  go_wp2_with (first | ((with_reducible refine zq (N := 1) rfl ?_); refine zo ?hg (N := 1) ?hd (cs := #[.int .i64 a0_0, .int .i64 a0_1, .int .i64 a0_2, .slice A0_3 l0_3.length c0_3]) (t := 29) ?hr ?_; (case hd => rfl); (case hg => rfl); (case hr => exact sqG); intro gb233 hg w24 hbox hb; have n0_ := Aside0.mk (ze sqB hb); have n1_ := Aside0.mk (hbox); have n2_ := Aside0.mk ((sqS hg : w.heap.size ≤ gb233)); have n3_ := Aside0.mk ((sqS hg : w.heap.size ≤ gb233)); clear HB; have HB := n0_; have BK233 := n1_; have GW233 := n2_; have GE233 := n3_; clear n0_ n1_ n2_ n3_; clear hb hbox hg) | ((with_reducible refine zq (N := 2) rfl ?_); refine zo ?hg (N := 2) ?hd (cs := #[.int .i64 0, .slice none 0 0]) (t := 27) ?hr ?_; (case hd => rfl); (case hg => rfl); (case hr => exact sqG); intro gb234 hg w25 hbox hb; have n0_ := Aside0.mk (zd (g := gb233) (o := .cells #[.int .i64 a0_0, .int .i64 a0_1, .int .i64 a0_2, .slice A0_3 l0_3.length c0_3] 29 (0, 0)) (sqK BK233.out) hb); have n1_ := Aside0.mk (ze sqB hb); have n2_ := Aside0.mk (hbox); have n3_ := Aside0.mk ((sqS hg : w.heap.size ≤ gb234)); have n4_ := Aside0.mk ((sqS hg : w.heap.size ≤ gb234)); have n5_ := Aside0.mk ((by rw [hg]; exact Nat.ne_of_lt (zz (g := gb233) (o := .cells #[.int .i64 a0_0, .int .i64 a0_1, .int .i64 a0_2, .slice A0_3 l0_3.length c0_3] 29 (0, 0)) (sqK BK233.out)) : gb233 ≠ gb234)); have n6_ := Aside0.mk ((by rw [hg]; exact Nat.ne_of_gt (zz (g := gb233) (o := .cells #[.int .i64 a0_0, .int .i64 a0_1, .int .i64 a0_2, .slice A0_3 l0_3.length c0_3] 29 (0, 0)) (sqK BK233.out)) : gb234 ≠ gb233)); clear BK233; clear HB; have BK233 := n0_; have HB := n1_; have BK234 := n2_; have GW234 := n3_; have GE234 := n4_; have NB233_234 := n5_; have NB234_233 := n6_; clear n0_ n1_ n2_ n3_ n4_ n5_ n6_; clear hb hbox hg; have hnb26 := NB233_234.out; have hnc26 := NB234_233.out; have hcz27_0 : w25.cell? ⟨gb233, 0, none⟩ = some (.int .i64 a0_0) := (zb BK233.out 0).trans rfl; have hcz27_1 : w25.cell? ⟨gb233, 1, none⟩ = some (.int .i64 a0_1) := (zb BK233.out 1).trans rfl; have hcz27_2 : w25.cell? ⟨gb233, 2, none⟩ = some (.int .i64 a0_2) := (zb BK233.out 2).trans rfl; have hcz27_3 : w25.cell? ⟨gb233, 3, none⟩ = some (.slice A0_3 l0_3.length c0_3) := (zb BK233.out 3).trans rfl; have hfz27_0 := za BK233.out 0; have hfz27_1 := za BK233.out 1; have hfz27_2 := za BK233.out 2; have hfz27_3 := za BK233.out 3) | ((with_reducible refine zf (f := 17) rfl ?_); refine zu (some 6) rfl rfl Try.func17 (by kernel_rfl) rfl #[.agg #[.int .i64 a0_0, .int .i64 a0_1, .int .i64 a0_2, .slice A0_3 l0_3.length c0_3]] rfl sqM ?_; (with_reducible refine (zl.calls k a0_0 a0_1 a0_2 _ _ l0_3 false _ ?side1 ?side2 A2.out).mono ?_); (case side1 => exact sqC (Kd.zI HR0_3.out HB.out)); (case side2 => exact HC0_3.out); rintro e w28 ⟨rfl, hb⟩; refine ⟨_, rfl, ?_⟩; have n0_ := Aside0.mk (zd (g := gb233) (o := .cells #[.int .i64 a0_0, .int .i64 a0_1, .int .i64 a0_2, .slice A0_3 l0_3.length c0_3] 29 (0, 0)) (sqK BK233.out) hb); have n1_ := Aside0.mk (zd (g := gb234) (o := .cells #[.int .i64 0, .slice none 0 0] 27 (0, 0)) (sqK BK234.out) hb); have n2_ := Aside0.mk (ze sqB hb); clear BK233; clear BK234; clear HB; have BK233 := n0_; have BK234 := n1_; have HB := n2_; clear n0_ n1_ n2_; (try clear hb); (try clear hb2); (try clear hk); (try clear hi); have hcz29_0 : w28.cell? ⟨gb234, 0, none⟩ = some (.int .i64 0) := (zb BK234.out 0).trans rfl; have hcz29_1 : w28.cell? ⟨gb234, 1, none⟩ = some (.slice none 0 0) := (zb BK234.out 1).trans rfl; have hfz29_0 := za BK234.out 0; have hfz29_1 := za BK234.out 1))
  refine bodyPost_ret (results_cell_row rfl _ _ gb234 27 #[.int .i64 0, .slice none 0 0] (0, 0) _ rfl (by refine sqK ?_; refine zL (cs := #[.int .i64 0, .slice none 0 0]) ?_ 1 _ rfl; refine sqK ?_; refine zL (cs := #[.int .i64 0, .slice none 0 0]) ?_ 0 _ rfl; refine sqK ?_; exact BK234.out) Try.underlying27 rfl (by kernel_rfl)) rfl ?_
  exact ⟨_, sqE, sqN, sqB⟩

def zh.j0 : Nat → Bool → Int → Int → Int → List Int → Int → List Int → Int → List Int → Option (Bool)
 | 0, _, _, _, _, _, _, _, _, _ => none
 | k + 1, x42, x264000, x264001, x264002, x264003, x276000, x276001, x288000, x288001 => if x42 = true then (none) else ((qR.f k x288000 x288001 1).bind fun bt299 => ((zU.f k x288000 bt299.2 1).bind fun t301 => (if t301 < 0 then (none) else (if t301 = bt299.1 then ((zM.f k x264000 x264001 x264002 x264003).bind fun bt302 => ((zH.f k bt302.1 bt302.2.1 bt302.2.2.1 bt302.2.2.2).bind fun bt308 => ((zw.f k bt308.1 bt308.2 x276000 x276001).bind fun t313 => (if t313 = true then ((zU.f k x288000 bt299.2 1).bind fun t314 => (if t314 < 0 then (none) else (if t314 = bt299.1 then (some true) else (none)))) else (none))))) else (none)))))
def zh.f (k : Nat) (a0_0 : Int) (a0_1 : Int) (a0_2 : Int) (l0_3 : List Int) : Option (Bool) := (jc.f a0_0 a0_1 a0_2 l0_3 1048576).bind fun t264 => (if t264 < 0 then (some true) else ((zM.f k a0_0 a0_1 a0_2 l0_3).bind fun bt265 => ((qH.f k bt265.1 bt265.2.1 bt265.2.2.1 bt265.2.2.2).bind fun bt271 => ((zM.f k a0_0 a0_1 a0_2 l0_3).bind fun bt276 => ((zH.f k bt276.1 bt276.2.1 bt276.2.2.1 bt276.2.2.2).bind fun bt283 => ((zw.f k bt283.1 bt283.2 bt271.1 bt271.2).bind fun t288 => (if t288 = true then ((zM.f k a0_0 a0_1 a0_2 l0_3).bind fun bt289 => ((qo.f k bt276.1 bt276.2.1 bt276.2.2.1 bt276.2.2.2 bt289.1 bt289.2.1 bt289.2.2.1 bt289.2.2.2).bind fun t295 => (if t295 = true then ((zZ.f k bt276.1 bt276.2.1 bt276.2.2.1 bt276.2.2.2 1).bind fun bt296 => (if bt296.1 < 0 then (zh.j0 k true a0_0 a0_1 a0_2 l0_3 bt271.1 bt271.2 bt283.1 bt283.2) else ((zw.f k bt283.1 bt283.2 bt271.1 bt271.2).bind fun t298 => (zh.j0 k (!t298) a0_0 a0_1 a0_2 l0_3 bt271.1 bt271.2 bt283.1 bt283.2)))) else (none)))) else (none))))))))
theorem zh.calls (k : Nat) (a0_0 : Int) (a0_1 : Int) (a0_2 : Int) (A0_3 : Option Addr) (c0_3 : Nat) (l0_3 : List Int) (r : Bool) (w : World) (hr0_3 : Kd.C (Kd.int .i64) w A0_3 l0_3.length l0_3) (hc0_3 : l0_3.length ≤ c0_3) (h : zh.f k a0_0 a0_1 a0_2 l0_3 = some r) :
  Calls Try.prog 3 #[.agg #[.int .i64 a0_0, .int .i64 a0_1, .int .i64 a0_2, .slice A0_3 l0_3.length c0_3]] w fun e w' => e = .returned (.bool r) ∧ Below w.heap.size w w' := by
 have hu24 := Try.underlying24
 have hu27 := Try.underlying27
 have hu29 := Try.underlying29
 have HR0_3 := Aside0.mk hr0_3
 have HC0_3 := Aside0.mk hc0_3
 clear hr0_3 hc0_3
 have HB := Aside0.mk (Below.refl w.heap.size w)
 have H : ((jc.f a0_0 a0_1 a0_2 l0_3 1048576).bind fun t264 => (if t264 < 0 then (some true) else ((zM.f k a0_0 a0_1 a0_2 l0_3).bind fun bt265 => ((qH.f k bt265.1 bt265.2.1 bt265.2.2.1 bt265.2.2.2).bind fun bt271 => ((zM.f k a0_0 a0_1 a0_2 l0_3).bind fun bt276 => ((zH.f k bt276.1 bt276.2.1 bt276.2.2.1 bt276.2.2.2).bind fun bt283 => ((zw.f k bt283.1 bt283.2 bt271.1 bt271.2).bind fun t288 => (if t288 = true then ((zM.f k a0_0 a0_1 a0_2 l0_3).bind fun bt289 => ((qo.f k bt276.1 bt276.2.1 bt276.2.2.1 bt276.2.2.2 bt289.1 bt289.2.1 bt289.2.2.1 bt289.2.2.2).bind fun t295 => (if t295 = true then ((zZ.f k bt276.1 bt276.2.1 bt276.2.2.1 bt276.2.2.2 1).bind fun bt296 => (if bt296.1 < 0 then (zh.j0 k true a0_0 a0_1 a0_2 l0_3 bt271.1 bt271.2 bt283.1 bt283.2) else ((zw.f k bt283.1 bt283.2 bt271.1 bt271.2).bind fun t298 => (zh.j0 k (!t298) a0_0 a0_1 a0_2 l0_3 bt271.1 bt271.2 bt283.1 bt283.2)))) else (none)))) else (none))))))))) = some r := h
 clear h
 replace H := Option.bind_eq_some_iff.mp H
 obtain ⟨t264, A20, H⟩ := H
 replace H : (if t264 < 0 then (some true) else ((zM.f k a0_0 a0_1 a0_2 l0_3).bind fun bt265 => ((qH.f k bt265.1 bt265.2.1 bt265.2.2.1 bt265.2.2.2).bind fun bt271 => ((zM.f k a0_0 a0_1 a0_2 l0_3).bind fun bt276 => ((zH.f k bt276.1 bt276.2.1 bt276.2.2.1 bt276.2.2.2).bind fun bt283 => ((zw.f k bt283.1 bt283.2 bt271.1 bt271.2).bind fun t288 => (if t288 = true then ((zM.f k a0_0 a0_1 a0_2 l0_3).bind fun bt289 => ((qo.f k bt276.1 bt276.2.1 bt276.2.2.1 bt276.2.2.2 bt289.1 bt289.2.1 bt289.2.2.1 bt289.2.2.2).bind fun t295 => (if t295 = true then ((zZ.f k bt276.1 bt276.2.1 bt276.2.2.1 bt276.2.2.2 1).bind fun bt296 => (if bt296.1 < 0 then (zh.j0 k true a0_0 a0_1 a0_2 l0_3 bt271.1 bt271.2 bt283.1 bt283.2) else ((zw.f k bt283.1 bt283.2 bt271.1 bt271.2).bind fun t298 => (zh.j0 k (!t298) a0_0 a0_1 a0_2 l0_3 bt271.1 bt271.2 bt283.1 bt283.2)))) else (none)))) else (none)))))))) = some r := H
 have A2 := Aside0.mk A20
 clear A20
 by_cases c3 : t264 < 0
 ·rw [if_pos c3] at H
  have c3b0 : decide (t264 < 0) = true := decide_eq_true c3
  clear c3
  obtain rfl := Option.some.inj H
  go_enter Try.func3, Try.ntmps3
  go_wp2_with (first | ((with_reducible refine zq (N := 1) rfl ?_); refine zo ?hg (N := 1) ?hd (cs := #[.int .i64 a0_0, .int .i64 a0_1, .int .i64 a0_2, .slice A0_3 l0_3.length c0_3]) (t := 24) ?hr ?_; (case hd => rfl); (case hg => rfl); (case hr => exact sqG); intro gb263 hg w4 hbox hb; have n0_ := Aside0.mk (ze sqB hb); have n1_ := Aside0.mk (hbox); have n2_ := Aside0.mk ((sqS hg : w.heap.size ≤ gb263)); have n3_ := Aside0.mk ((sqS hg : w.heap.size ≤ gb263)); clear HB; have HB := n0_; have BK263 := n1_; have GW263 := n2_; have GE263 := n3_; clear n0_ n1_ n2_ n3_; clear hb hbox hg; have hcz5_0 : w4.cell? ⟨gb263, 0, none⟩ = some (.int .i64 a0_0) := (zb BK263.out 0).trans rfl; have hcz5_1 : w4.cell? ⟨gb263, 1, none⟩ = some (.int .i64 a0_1) := (zb BK263.out 1).trans rfl; have hcz5_2 : w4.cell? ⟨gb263, 2, none⟩ = some (.int .i64 a0_2) := (zb BK263.out 2).trans rfl; have hcz5_3 : w4.cell? ⟨gb263, 3, none⟩ = some (.slice A0_3 l0_3.length c0_3) := (zb BK263.out 3).trans rfl; have hfz5_0 := za BK263.out 0; have hfz5_1 := za BK263.out 1; have hfz5_2 := za BK263.out 2; have hfz5_3 := za BK263.out 3) | ((with_reducible refine zf (f := 4) rfl ?_); refine zu (some 13) rfl rfl Try.func4 (by kernel_rfl) rfl #[.agg #[.int .i64 a0_0, .int .i64 a0_1, .int .i64 a0_2, .slice A0_3 l0_3.length c0_3], .int .i64 1048576] rfl sqM ?_; (with_reducible refine (jc.calls a0_0 a0_1 a0_2 _ _ l0_3 1048576 t264 _ ?side1 ?side2 A2.out).mono ?_); (case side1 => exact sqC (Kd.zI HR0_3.out HB.out)); (case side2 => exact HC0_3.out); rintro e w6 ⟨rfl, hb⟩; refine ⟨_, rfl, ?_⟩; have n0_ := Aside0.mk (zd (g := gb263) (o := .cells #[.int .i64 a0_0, .int .i64 a0_1, .int .i64 a0_2, .slice A0_3 l0_3.length c0_3] 24 (0, 0)) (sqK BK263.out) hb); have n1_ := Aside0.mk (ze sqB hb); clear BK263; clear HB; have BK263 := n0_; have HB := n1_; clear n0_ n1_; (try clear hb); (try clear hb2); (try clear hk); (try clear hi)))
  go_ret
  exact ⟨sqE, sqB⟩
 ·rw [if_neg c3] at H
  have c3b0 : decide (t264 < 0) = false := decide_eq_false c3
  clear c3
  replace H := Option.bind_eq_some_iff.mp H
  obtain ⟨⟨t265, t266, t267, t268⟩, A70, H⟩ := H
  replace H : ((qH.f k t265 t266 t267 t268).bind fun bt271 => ((zM.f k a0_0 a0_1 a0_2 l0_3).bind fun bt276 => ((zH.f k bt276.1 bt276.2.1 bt276.2.2.1 bt276.2.2.2).bind fun bt283 => ((zw.f k bt283.1 bt283.2 bt271.1 bt271.2).bind fun t288 => (if t288 = true then ((zM.f k a0_0 a0_1 a0_2 l0_3).bind fun bt289 => ((qo.f k bt276.1 bt276.2.1 bt276.2.2.1 bt276.2.2.2 bt289.1 bt289.2.1 bt289.2.2.1 bt289.2.2.2).bind fun t295 => (if t295 = true then ((zZ.f k bt276.1 bt276.2.1 bt276.2.2.1 bt276.2.2.2 1).bind fun bt296 => (if bt296.1 < 0 then (zh.j0 k true a0_0 a0_1 a0_2 l0_3 bt271.1 bt271.2 bt283.1 bt283.2) else ((zw.f k bt283.1 bt283.2 bt271.1 bt271.2).bind fun t298 => (zh.j0 k (!t298) a0_0 a0_1 a0_2 l0_3 bt271.1 bt271.2 bt283.1 bt283.2)))) else (none)))) else (none)))))) = some r := H
  have A7 := Aside0.mk A70
  clear A70
  replace H := Option.bind_eq_some_iff.mp H
  obtain ⟨⟨t271, t272⟩, A80, H⟩ := H
  replace H : ((zM.f k a0_0 a0_1 a0_2 l0_3).bind fun bt276 => ((zH.f k bt276.1 bt276.2.1 bt276.2.2.1 bt276.2.2.2).bind fun bt283 => ((zw.f k bt283.1 bt283.2 t271 t272).bind fun t288 => (if t288 = true then ((zM.f k a0_0 a0_1 a0_2 l0_3).bind fun bt289 => ((qo.f k bt276.1 bt276.2.1 bt276.2.2.1 bt276.2.2.2 bt289.1 bt289.2.1 bt289.2.2.1 bt289.2.2.2).bind fun t295 => (if t295 = true then ((zZ.f k bt276.1 bt276.2.1 bt276.2.2.1 bt276.2.2.2 1).bind fun bt296 => (if bt296.1 < 0 then (zh.j0 k true a0_0 a0_1 a0_2 l0_3 t271 t272 bt283.1 bt283.2) else ((zw.f k bt283.1 bt283.2 t271 t272).bind fun t298 => (zh.j0 k (!t298) a0_0 a0_1 a0_2 l0_3 t271 t272 bt283.1 bt283.2)))) else (none)))) else (none))))) = some r := H
  have A8 := Aside0.mk A80
  clear A80
  replace H := Option.bind_eq_some_iff.mp H
  obtain ⟨⟨t276, t277, t278, t279⟩, A90, H⟩ := H
  replace H : ((zH.f k t276 t277 t278 t279).bind fun bt283 => ((zw.f k bt283.1 bt283.2 t271 t272).bind fun t288 => (if t288 = true then ((zM.f k a0_0 a0_1 a0_2 l0_3).bind fun bt289 => ((qo.f k t276 t277 t278 t279 bt289.1 bt289.2.1 bt289.2.2.1 bt289.2.2.2).bind fun t295 => (if t295 = true then ((zZ.f k t276 t277 t278 t279 1).bind fun bt296 => (if bt296.1 < 0 then (zh.j0 k true a0_0 a0_1 a0_2 l0_3 t271 t272 bt283.1 bt283.2) else ((zw.f k bt283.1 bt283.2 t271 t272).bind fun t298 => (zh.j0 k (!t298) a0_0 a0_1 a0_2 l0_3 t271 t272 bt283.1 bt283.2)))) else (none)))) else (none)))) = some r := H
  have A9 := Aside0.mk A90
  clear A90
  replace H := Option.bind_eq_some_iff.mp H
  obtain ⟨⟨t283, t284⟩, A100, H⟩ := H
  replace H : ((zw.f k t283 t284 t271 t272).bind fun t288 => (if t288 = true then ((zM.f k a0_0 a0_1 a0_2 l0_3).bind fun bt289 => ((qo.f k t276 t277 t278 t279 bt289.1 bt289.2.1 bt289.2.2.1 bt289.2.2.2).bind fun t295 => (if t295 = true then ((zZ.f k t276 t277 t278 t279 1).bind fun bt296 => (if bt296.1 < 0 then (zh.j0 k true a0_0 a0_1 a0_2 l0_3 t271 t272 t283 t284) else ((zw.f k t283 t284 t271 t272).bind fun t298 => (zh.j0 k (!t298) a0_0 a0_1 a0_2 l0_3 t271 t272 t283 t284)))) else (none)))) else (none))) = some r := H
  have A10 := Aside0.mk A100
  clear A100
  replace H := Option.bind_eq_some_iff.mp H
  obtain ⟨t288, A110, H⟩ := H
  replace H : (if t288 = true then ((zM.f k a0_0 a0_1 a0_2 l0_3).bind fun bt289 => ((qo.f k t276 t277 t278 t279 bt289.1 bt289.2.1 bt289.2.2.1 bt289.2.2.2).bind fun t295 => (if t295 = true then ((zZ.f k t276 t277 t278 t279 1).bind fun bt296 => (if bt296.1 < 0 then (zh.j0 k true a0_0 a0_1 a0_2 l0_3 t271 t272 t283 t284) else ((zw.f k t283 t284 t271 t272).bind fun t298 => (zh.j0 k (!t298) a0_0 a0_1 a0_2 l0_3 t271 t272 t283 t284)))) else (none)))) else (none)) = some r := H
  have A11 := Aside0.mk A110
  clear A110
  by_cases c12 : t288 = true
  ·subst c12
   have H1 : ((zM.f k a0_0 a0_1 a0_2 l0_3).bind fun bt289 => ((qo.f k t276 t277 t278 t279 bt289.1 bt289.2.1 bt289.2.2.1 bt289.2.2.2).bind fun t295 => (if t295 = true then ((zZ.f k t276 t277 t278 t279 1).bind fun bt296 => (if bt296.1 < 0 then (zh.j0 k true a0_0 a0_1 a0_2 l0_3 t271 t272 t283 t284) else ((zw.f k t283 t284 t271 t272).bind fun t298 => (zh.j0 k (!t298) a0_0 a0_1 a0_2 l0_3 t271 t272 t283 t284)))) else (none)))) = some r := by rw [if_pos rfl] at H; exact H
   clear H
   have H := H1
   clear H1
   replace H := Option.bind_eq_some_iff.mp H
   obtain ⟨⟨t289, t290, t291, t292⟩, A130, H⟩ := H
   replace H : ((qo.f k t276 t277 t278 t279 t289 t290 t291 t292).bind fun t295 => (if t295 = true then ((zZ.f k t276 t277 t278 t279 1).bind fun bt296 => (if bt296.1 < 0 then (zh.j0 k true a0_0 a0_1 a0_2 l0_3 t271 t272 t283 t284) else ((zw.f k t283 t284 t271 t272).bind fun t298 => (zh.j0 k (!t298) a0_0 a0_1 a0_2 l0_3 t271 t272 t283 t284)))) else (none))) = some r := H
   have A13 := Aside0.mk A130
   clear A130
   replace H := Option.bind_eq_some_iff.mp H
   obtain ⟨t295, A140, H⟩ := H
   replace H : (if t295 = true then ((zZ.f k t276 t277 t278 t279 1).bind fun bt296 => (if bt296.1 < 0 then (zh.j0 k true a0_0 a0_1 a0_2 l0_3 t271 t272 t283 t284) else ((zw.f k t283 t284 t271 t272).bind fun t298 => (zh.j0 k (!t298) a0_0 a0_1 a0_2 l0_3 t271 t272 t283 t284)))) else (none)) = some r := H
   have A14 := Aside0.mk A140
   clear A140
   by_cases c15 : t295 = true
   ·subst c15
    have H1 : ((zZ.f k t276 t277 t278 t279 1).bind fun bt296 => (if bt296.1 < 0 then (zh.j0 k true a0_0 a0_1 a0_2 l0_3 t271 t272 t283 t284) else ((zw.f k t283 t284 t271 t272).bind fun t298 => (zh.j0 k (!t298) a0_0 a0_1 a0_2 l0_3 t271 t272 t283 t284)))) = some r := by rw [if_pos rfl] at H; exact H
    clear H
    have H := H1
    clear H1
    replace H := Option.bind_eq_some_iff.mp H
    obtain ⟨⟨t296, t297⟩, A160, H⟩ := H
    replace H : (if t296 < 0 then (zh.j0 k true a0_0 a0_1 a0_2 l0_3 t271 t272 t283 t284) else ((zw.f k t283 t284 t271 t272).bind fun t298 => (zh.j0 k (!t298) a0_0 a0_1 a0_2 l0_3 t271 t272 t283 t284))) = some r := H
    have A16 := Aside0.mk A160
    clear A160
    have HC17 := Aside0.mk H
    clear H
    go_enter Try.func3, Try.ntmps3
    try go_wp2_with (first | ((with_reducible refine zq (N := 1) rfl ?_); refine zo ?hg (N := 1) ?hd (cs := #[.int .i64 a0_0, .int .i64 a0_1, .int .i64 a0_2, .slice A0_3 l0_3.length c0_3]) (t := 24) ?hr ?_; (case hd => rfl); (case hg => rfl); (case hr => exact sqG); intro gb263 hg w18 hbox hb; have n0_ := Aside0.mk (ze sqB hb); have n1_ := Aside0.mk (hbox); have n2_ := Aside0.mk ((sqS hg : w.heap.size ≤ gb263)); have n3_ := Aside0.mk ((sqS hg : w.heap.size ≤ gb263)); clear HB; have HB := n0_; have BK263 := n1_; have GW263 := n2_; have GE263 := n3_; clear n0_ n1_ n2_ n3_; clear hb hbox hg; have hcz19_0 : w18.cell? ⟨gb263, 0, none⟩ = some (.int .i64 a0_0) := (zb BK263.out 0).trans rfl; have hcz19_1 : w18.cell? ⟨gb263, 1, none⟩ = some (.int .i64 a0_1) := (zb BK263.out 1).trans rfl; have hcz19_2 : w18.cell? ⟨gb263, 2, none⟩ = some (.int .i64 a0_2) := (zb BK263.out 2).trans rfl; have hcz19_3 : w18.cell? ⟨gb263, 3, none⟩ = some (.slice A0_3 l0_3.length c0_3) := (zb BK263.out 3).trans rfl; have hfz19_0 := za BK263.out 0; have hfz19_1 := za BK263.out 1; have hfz19_2 := za BK263.out 2; have hfz19_3 := za BK263.out 3) | ((with_reducible refine zf (f := 4) rfl ?_); refine zu (some 13) rfl rfl Try.func4 (by kernel_rfl) rfl #[.agg #[.int .i64 a0_0, .int .i64 a0_1, .int .i64 a0_2, .slice A0_3 l0_3.length c0_3], .int .i64 1048576] rfl sqM ?_; (with_reducible refine (jc.calls a0_0 a0_1 a0_2 _ _ l0_3 1048576 t264 _ ?side1 ?side2 A2.out).mono ?_); (case side1 => exact sqC (Kd.zI HR0_3.out HB.out)); (case side2 => exact HC0_3.out); rintro e w20 ⟨rfl, hb⟩; refine ⟨_, rfl, ?_⟩; have n0_ := Aside0.mk (zd (g := gb263) (o := .cells #[.int .i64 a0_0, .int .i64 a0_1, .int .i64 a0_2, .slice A0_3 l0_3.length c0_3] 24 (0, 0)) (sqK BK263.out) hb); have n1_ := Aside0.mk (ze sqB hb); clear BK263; clear HB; have BK263 := n0_; have HB := n1_; clear n0_ n1_; (try clear hb); (try clear hb2); (try clear hk); (try clear hi); have hcz21_0 : w20.cell? ⟨gb263, 0, none⟩ = some (.int .i64 a0_0) := (zb BK263.out 0).trans rfl; have hcz21_1 : w20.cell? ⟨gb263, 1, none⟩ = some (.int .i64 a0_1) := (zb BK263.out 1).trans rfl; have hcz21_2 : w20.cell? ⟨gb263, 2, none⟩ = some (.int .i64 a0_2) := (zb BK263.out 2).trans rfl; have hcz21_3 : w20.cell? ⟨gb263, 3, none⟩ = some (.slice A0_3 l0_3.length c0_3) := (zb BK263.out 3).trans rfl; have hfz21_0 := za BK263.out 0; have hfz21_1 := za BK263.out 1; have hfz21_2 := za BK263.out 2; have hfz21_3 := za BK263.out 3) | ((with_reducible refine zf (f := 6) rfl ?_); refine zu (some 17) rfl rfl Try.func6 (by kernel_rfl) rfl #[.agg #[.int .i64 a0_0, .int .i64 a0_1, .int .i64 a0_2, .slice A0_3 l0_3.length c0_3]] rfl sqM ?_; (with_reducible refine (zM.calls k a0_0 a0_1 a0_2 _ _ l0_3 t265 t266 t267 t268 _ ?side1 ?side2 A7.out).mono ?_); (case side1 => exact sqC (Kd.zI HR0_3.out HB.out)); (case side2 => exact HC0_3.out); rintro e w22 ⟨v269, rfl, ho0, hb⟩; refine ⟨_, rfl, ?_⟩; have n0_ := Aside0.mk (Kd.qq ho0 (zB sqB)); have n1_ := Aside0.mk (zd (g := gb263) (o := .cells #[.int .i64 a0_0, .int .i64 a0_1, .int .i64 a0_2, .slice A0_3 l0_3.length c0_3] 24 (0, 0)) (sqK BK263.out) hb); have n2_ := Aside0.mk (ze sqB hb); clear BK263; clear HB; have HO270 := n0_; have BK263 := n1_; have HB := n2_; clear n0_ n1_ n2_; (try clear hb); (try clear hb2); (try clear hk); (try clear hi); (try clear ho0); obtain ⟨Ao23, co23, eo23⟩ := Kd.z8 HO270.out; subst eo23) | ((with_reducible refine zf (f := 5) rfl ?_); refine zu (some 18) rfl rfl Try.func5 (by kernel_rfl) rfl #[.agg #[.int .i64 t265, .int .i64 t266, .int .i64 t267, .slice Ao23 t268.length co23]] rfl sqM ?_; (with_reducible refine (qH.calls k t265 t266 t267 _ _ t268 t271 t272 _ ?side1 ?side2 A8.out).mono ?_); (case side1 => exact sqC (Kd.zx HO270.out).2.2); (case side2 => exact (Kd.zx HO270.out).2.1); rintro e w24 ⟨v273, rfl, ho0, hb⟩; refine ⟨_, rfl, ?_⟩; have n0_ := Aside0.mk (Kd.qz (sqR HO270.out) (Kd.qS ho0) hb); have n1_ := Aside0.mk (Kd.qq (Kd.ja ho0 (Kd.vr (sqR HO270.out))) (zB sqB)); have n2_ := Aside0.mk (zd (g := gb263) (o := .cells #[.int .i64 a0_0, .int .i64 a0_1, .int .i64 a0_2, .slice A0_3 l0_3.length c0_3] 24 (0, 0)) (sqK BK263.out) hb); have n3_ := Aside0.mk (ze sqB hb); clear HO270; clear BK263; clear HB; have HO270 := n0_; have HO274 := n1_; have BK263 := n2_; have HB := n3_; clear n0_ n1_ n2_ n3_; (try clear hb); (try clear hb2); (try clear hk); (try clear hi); (try clear ho0)) | ((with_reducible refine zq (N := 4) rfl ?_); refine zo ?hg (N := 4) ?hd (cs := #[.int .i64 0, .slice none 0 0]) (t := 27) ?hr ?_; (case hd => rfl); (case hg => rfl); (case hr => exact sqG); intro gb275 hg w25 hbox hb; have n0_ := Aside0.mk (Kd.zE (sqR HO270.out) hb); have n1_ := Aside0.mk (Kd.zE (sqR HO274.out) hb); have n2_ := Aside0.mk (zd (g := gb263) (o := .cells #[.int .i64 a0_0, .int .i64 a0_1, .int .i64 a0_2, .slice A0_3 l0_3.length c0_3] 24 (0, 0)) (sqK BK263.out) hb); have n3_ := Aside0.mk (ze sqB hb); have n4_ := Aside0.mk (hbox); have n5_ := Aside0.mk ((sqS hg : w.heap.size ≤ gb275)); have n6_ := Aside0.mk ((sqS hg : w.heap.size ≤ gb275)); have n7_ := Aside0.mk ((by rw [hg]; exact Nat.ne_of_lt (zz (g := gb263) (o := .cells #[.int .i64 a0_0, .int .i64 a0_1, .int .i64 a0_2, .slice A0_3 l0_3.length c0_3] 24 (0, 0)) (sqK BK263.out)) : gb263 ≠ gb275)); have n8_ := Aside0.mk ((by rw [hg]; exact Nat.ne_of_gt (zz (g := gb263) (o := .cells #[.int .i64 a0_0, .int .i64 a0_1, .int .i64 a0_2, .slice A0_3 l0_3.length c0_3] 24 (0, 0)) (sqK BK263.out)) : gb275 ≠ gb263)); clear HO270; clear HO274; clear BK263; clear HB; have HO270 := n0_; have HO274 := n1_; have BK263 := n2_; have HB := n3_; have BK275 := n4_; have GW275 := n5_; have GE275 := n6_; have NB263_275 := n7_; have NB275_263 := n8_; clear n0_ n1_ n2_ n3_ n4_ n5_ n6_ n7_ n8_; clear hb hbox hg; have hnb26 := NB275_263.out; have hnc26 := NB263_275.out; have hcz27_0 : w25.cell? ⟨gb275, 0, none⟩ = some (.int .i64 0) := (zb BK275.out 0).trans rfl; have hcz27_1 : w25.cell? ⟨gb275, 1, none⟩ = some (.slice none 0 0) := (zb BK275.out 1).trans rfl; have hfz27_0 := za BK275.out 0; have hfz27_1 := za BK275.out 1; obtain ⟨Ao28, co28, eo28⟩ := Kd.z8 HO274.out; subst eo28; have hcz29_0 : w25.cell? ⟨gb263, 0, none⟩ = some (.int .i64 a0_0) := (zb BK263.out 0).trans rfl; have hcz29_1 : w25.cell? ⟨gb263, 1, none⟩ = some (.int .i64 a0_1) := (zb BK263.out 1).trans rfl; have hcz29_2 : w25.cell? ⟨gb263, 2, none⟩ = some (.int .i64 a0_2) := (zb BK263.out 2).trans rfl; have hcz29_3 : w25.cell? ⟨gb263, 3, none⟩ = some (.slice A0_3 l0_3.length c0_3) := (zb BK263.out 3).trans rfl; have hfz29_0 := za BK263.out 0; have hfz29_1 := za BK263.out 1; have hfz29_2 := za BK263.out 2; have hfz29_3 := za BK263.out 3) | ((with_reducible refine zf (f := 6) rfl ?_); refine zu (some 20) rfl rfl Try.func6 (by kernel_rfl) rfl #[.agg #[.int .i64 a0_0, .int .i64 a0_1, .int .i64 a0_2, .slice A0_3 l0_3.length c0_3]] rfl sqM ?_; (with_reducible refine (zM.calls k a0_0 a0_1 a0_2 _ _ l0_3 t276 t277 t278 t279 _ ?side1 ?side2 A9.out).mono ?_); (case side1 => exact Kd.zI HR0_3.out sqB); (case side2 => exact HC0_3.out); rintro e w30 ⟨v280, rfl, ho0, hb⟩; refine ⟨_, rfl, ?_⟩; have n0_ := Aside0.mk (Kd.qz (by refine sqR ?_; exact (Kd.zy (Kd.zF (p := ⟨gb275, 1, none⟩) (Kd.zF (p := ⟨gb275, 0, none⟩) (Kd.zV HO270.out BK275.out (by decide)) (fun _ hk => hk.2) (.int .i64 t271)) (fun _ hk => hk.2) (.slice Ao28 t272.length co28)) (fun _ h_ => h_.1))) (Kd.qS ho0) hb); have n1_ := Aside0.mk (Kd.qz (by refine sqR ?_; exact (Kd.zy (Kd.zF (p := ⟨gb275, 1, none⟩) (Kd.zF (p := ⟨gb275, 0, none⟩) (Kd.zV HO274.out BK275.out (by decide)) (fun _ hk => hk.2) (.int .i64 t271)) (fun _ hk => hk.2) (.slice Ao28 t272.length co28)) (fun _ h_ => h_.1))) (Kd.qS ho0) hb); have n2_ := Aside0.mk (Kd.qq (Kd.ja (Kd.ja ho0 (Kd.vr (by refine sqR ?_; exact (Kd.zy (Kd.zF (p := ⟨gb275, 1, none⟩) (Kd.zF (p := ⟨gb275, 0, none⟩) (Kd.zV HO270.out BK275.out (by decide)) (fun _ hk => hk.2) (.int .i64 t271)) (fun _ hk => hk.2) (.slice Ao28 t272.length co28)) (fun _ h_ => h_.1))))) (Kd.vr (by refine sqR ?_; exact (Kd.zy (Kd.zF (p := ⟨gb275, 1, none⟩) (Kd.zF (p := ⟨gb275, 0, none⟩) (Kd.zV HO274.out BK275.out (by decide)) (fun _ hk => hk.2) (.int .i64 t271)) (fun _ hk => hk.2) (.slice Ao28 t272.length co28)) (fun _ h_ => h_.1))))) (zB sqB)); have n3_ := Aside0.mk (zd (g := gb263) (o := .cells #[.int .i64 a0_0, .int .i64 a0_1, .int .i64 a0_2, .slice A0_3 l0_3.length c0_3] 24 (0, 0)) (by refine sqK ?_; refine zJ ?_ NB263_275.out _; refine sqK ?_; refine zJ ?_ NB263_275.out _; refine sqK ?_; exact BK263.out) hb); have n4_ := Aside0.mk (zd (g := gb275) (o := .cells #[.int .i64 t271, .slice Ao28 t272.length co28] 27 (0, 0)) (by refine sqK ?_; refine zL (cs := #[.int .i64 t271, .slice none 0 0]) ?_ 1 _ rfl; refine sqK ?_; refine zL (cs := #[.int .i64 0, .slice none 0 0]) ?_ 0 _ rfl; refine sqK ?_; exact BK275.out) hb); have n5_ := Aside0.mk (ze sqB hb); clear HO270; clear HO274; clear BK263; clear BK275; clear HB; have HO270 := n0_; have HO274 := n1_; have HO281 := n2_; have BK263 := n3_; have BK275 := n4_; have HB := n5_; clear n0_ n1_ n2_ n3_ n4_ n5_; (try clear hb); (try clear hb2); (try clear hk); (try clear hi); (try clear ho0)) | ((with_reducible refine zq (N := 5) rfl ?_); refine zo ?hg (N := 5) ?hd (cs := #[.int .i64 0, .int .i64 0, .int .i64 0, .slice none 0 0]) (t := 29) ?hr ?_; (case hd => rfl); (case hg => rfl); (case hr => exact sqG); intro gb282 hg w31 hbox hb; have n0_ := Aside0.mk (Kd.zE (sqR HO270.out) hb); have n1_ := Aside0.mk (Kd.zE (sqR HO274.out) hb); have n2_ := Aside0.mk (Kd.zE (sqR HO281.out) hb); have n3_ := Aside0.mk (zd (g := gb263) (o := .cells #[.int .i64 a0_0, .int .i64 a0_1, .int .i64 a0_2, .slice A0_3 l0_3.length c0_3] 24 (0, 0)) (sqK BK263.out) hb); have n4_ := Aside0.mk (zd (g := gb275) (o := .cells #[.int .i64 t271, .slice Ao28 t272.length co28] 27 (0, 0)) (sqK BK275.out) hb); have n5_ := Aside0.mk (ze sqB hb); have n6_ := Aside0.mk (hbox); have n7_ := Aside0.mk ((sqS hg : w.heap.size ≤ gb282)); have n8_ := Aside0.mk ((sqS hg : w.heap.size ≤ gb282)); have n9_ := Aside0.mk ((by rw [hg]; exact Nat.ne_of_lt (zz (g := gb263) (o := .cells #[.int .i64 a0_0, .int .i64 a0_1, .int .i64 a0_2, .slice A0_3 l0_3.length c0_3] 24 (0, 0)) (sqK BK263.out)) : gb263 ≠ gb282)); have n10_ := Aside0.mk ((by rw [hg]; exact Nat.ne_of_gt (zz (g := gb263) (o := .cells #[.int .i64 a0_0, .int .i64 a0_1, .int .i64 a0_2, .slice A0_3 l0_3.length c0_3] 24 (0, 0)) (sqK BK263.out)) : gb282 ≠ gb263)); have n11_ := Aside0.mk ((by rw [hg]; exact Nat.ne_of_lt (zz (g := gb275) (o := .cells #[.int .i64 t271, .slice Ao28 t272.length co28] 27 (0, 0)) (sqK BK275.out)) : gb275 ≠ gb282)); have n12_ := Aside0.mk ((by rw [hg]; exact Nat.ne_of_gt (zz (g := gb275) (o := .cells #[.int .i64 t271, .slice Ao28 t272.length co28] 27 (0, 0)) (sqK BK275.out)) : gb282 ≠ gb275)); clear HO270; clear HO274; clear HO281; clear BK263; clear BK275; clear HB; have HO270 := n0_; have HO274 := n1_; have HO281 := n2_; have BK263 := n3_; have BK275 := n4_; have HB := n5_; have BK282 := n6_; have GW282 := n7_; have GE282 := n8_; have NB263_282 := n9_; have NB282_263 := n10_; have NB275_282 := n11_; have NB282_275 := n12_; clear n0_ n1_ n2_ n3_ n4_ n5_ n6_ n7_ n8_ n9_ n10_ n11_ n12_; clear hb hbox hg; have hnb32 := NB282_263.out; have hnc32 := NB263_282.out; have hnb33 := NB282_275.out; have hnc33 := NB275_282.out; have hcz34_0 : w31.cell? ⟨gb282, 0, none⟩ = some (.int .i64 0) := (zb BK282.out 0).trans rfl; have hcz34_1 : w31.cell? ⟨gb282, 1, none⟩ = some (.int .i64 0) := (zb BK282.out 1).trans rfl; have hcz34_2 : w31.cell? ⟨gb282, 2, none⟩ = some (.int .i64 0) := (zb BK282.out 2).trans rfl; have hcz34_3 : w31.cell? ⟨gb282, 3, none⟩ = some (.slice none 0 0) := (zb BK282.out 3).trans rfl; have hfz34_0 := za BK282.out 0; have hfz34_1 := za BK282.out 1; have hfz34_2 := za BK282.out 2; have hfz34_3 := za BK282.out 3; obtain ⟨Ao35, co35, eo35⟩ := Kd.z8 HO281.out; subst eo35) | ((with_reducible refine zf (f := 7) rfl ?_); refine zu (some 22) rfl rfl Try.func7 (by kernel_rfl) rfl #[.agg #[.int .i64 t276, .int .i64 t277, .int .i64 t278, .slice Ao35 t279.length co35]] rfl sqM ?_; (with_reducible refine (zH.calls k t276 t277 t278 _ _ t279 t283 t284 _ ?side1 ?side2 A10.out).mono ?_); (case side1 => refine (Kd.zx (e := 3) (base := w.heap.size) (ok := fun k_ => ((True ∧ some k_ ≠ (.slice Ao23 t268.length co23 : Value).ownBlock) ∧ some k_ ≠ (.slice Ao28 t272.length co28 : Value).ownBlock)) (n := t279.length) (c := co35) ?_).2.2; exact (by refine sqR ?_; exact (Kd.zy (Kd.zF (p := ⟨gb282, 3, none⟩) (Kd.zF (p := ⟨gb282, 2, none⟩) (Kd.zF (p := ⟨gb282, 1, none⟩) (Kd.zF (p := ⟨gb282, 0, none⟩) (Kd.zV HO281.out BK282.out (by decide)) (fun _ hk => hk.2) (.int .i64 t276)) (fun _ hk => hk.2) (.int .i64 t277)) (fun _ hk => hk.2) (.int .i64 t278)) (fun _ hk => hk.2) (.slice Ao35 t279.length co35)) (fun _ h_ => h_.1)))); (case side2 => exact (Kd.zx HO281.out).2.1); rintro e w36 ⟨v285, rfl, ho0, hb⟩; refine ⟨_, rfl, ?_⟩; have n0_ := Aside0.mk (Kd.qz (by refine sqR ?_; exact (Kd.zy (Kd.zF (p := ⟨gb282, 3, none⟩) (Kd.zF (p := ⟨gb282, 2, none⟩) (Kd.zF (p := ⟨gb282, 1, none⟩) (Kd.zF (p := ⟨gb282, 0, none⟩) (Kd.zV HO270.out BK282.out (by decide)) (fun _ hk => hk.2) (.int .i64 t276)) (fun _ hk => hk.2) (.int .i64 t277)) (fun _ hk => hk.2) (.int .i64 t278)) (fun _ hk => hk.2) (.slice Ao35 t279.length co35)) (fun _ h_ => h_.1))) (Kd.qS ho0) hb); have n1_ := Aside0.mk (Kd.qz (by refine sqR ?_; exact (Kd.zy (Kd.zF (p := ⟨gb282, 3, none⟩) (Kd.zF (p := ⟨gb282, 2, none⟩) (Kd.zF (p := ⟨gb282, 1, none⟩) (Kd.zF (p := ⟨gb282, 0, none⟩) (Kd.zV HO274.out BK282.out (by decide)) (fun _ hk => hk.2) (.int .i64 t276)) (fun _ hk => hk.2) (.int .i64 t277)) (fun _ hk => hk.2) (.int .i64 t278)) (fun _ hk => hk.2) (.slice Ao35 t279.length co35)) (fun _ h_ => h_.1))) (Kd.qS ho0) hb); have n2_ := Aside0.mk (Kd.qz (by refine sqR ?_; exact (Kd.zy (Kd.zF (p := ⟨gb282, 3, none⟩) (Kd.zF (p := ⟨gb282, 2, none⟩) (Kd.zF (p := ⟨gb282, 1, none⟩) (Kd.zF (p := ⟨gb282, 0, none⟩) (Kd.zV HO281.out BK282.out (by decide)) (fun _ hk => hk.2) (.int .i64 t276)) (fun _ hk => hk.2) (.int .i64 t277)) (fun _ hk => hk.2) (.int .i64 t278)) (fun _ hk => hk.2) (.slice Ao35 t279.length co35)) (fun _ h_ => h_.1))) (Kd.qS ho0) hb); have n3_ := Aside0.mk (Kd.qq (Kd.ja (Kd.ja (Kd.ja ho0 (Kd.vr (by refine sqR ?_; exact (Kd.zy (Kd.zF (p := ⟨gb282, 3, none⟩) (Kd.zF (p := ⟨gb282, 2, none⟩) (Kd.zF (p := ⟨gb282, 1, none⟩) (Kd.zF (p := ⟨gb282, 0, none⟩) (Kd.zV HO270.out BK282.out (by decide)) (fun _ hk => hk.2) (.int .i64 t276)) (fun _ hk => hk.2) (.int .i64 t277)) (fun _ hk => hk.2) (.int .i64 t278)) (fun _ hk => hk.2) (.slice Ao35 t279.length co35)) (fun _ h_ => h_.1))))) (Kd.vr (by refine sqR ?_; exact (Kd.zy (Kd.zF (p := ⟨gb282, 3, none⟩) (Kd.zF (p := ⟨gb282, 2, none⟩) (Kd.zF (p := ⟨gb282, 1, none⟩) (Kd.zF (p := ⟨gb282, 0, none⟩) (Kd.zV HO274.out BK282.out (by decide)) (fun _ hk => hk.2) (.int .i64 t276)) (fun _ hk => hk.2) (.int .i64 t277)) (fun _ hk => hk.2) (.int .i64 t278)) (fun _ hk => hk.2) (.slice Ao35 t279.length co35)) (fun _ h_ => h_.1))))) (Kd.vr (by refine sqR ?_; exact (Kd.zy (Kd.zF (p := ⟨gb282, 3, none⟩) (Kd.zF (p := ⟨gb282, 2, none⟩) (Kd.zF (p := ⟨gb282, 1, none⟩) (Kd.zF (p := ⟨gb282, 0, none⟩) (Kd.zV HO281.out BK282.out (by decide)) (fun _ hk => hk.2) (.int .i64 t276)) (fun _ hk => hk.2) (.int .i64 t277)) (fun _ hk => hk.2) (.int .i64 t278)) (fun _ hk => hk.2) (.slice Ao35 t279.length co35)) (fun _ h_ => h_.1))))) (zB sqB)); have n4_ := Aside0.mk (zd (g := gb263) (o := .cells #[.int .i64 a0_0, .int .i64 a0_1, .int .i64 a0_2, .slice A0_3 l0_3.length c0_3] 24 (0, 0)) (by refine sqK ?_; refine zJ ?_ NB263_282.out _; refine sqK ?_; refine zJ ?_ NB263_282.out _; refine sqK ?_; refine zJ ?_ NB263_282.out _; refine sqK ?_; refine zJ ?_ NB263_282.out _; refine sqK ?_; exact BK263.out) hb); have n5_ := Aside0.mk (zd (g := gb275) (o := .cells #[.int .i64 t271, .slice Ao28 t272.length co28] 27 (0, 0)) (by refine sqK ?_; refine zJ ?_ NB275_282.out _; refine sqK ?_; refine zJ ?_ NB275_282.out _; refine sqK ?_; refine zJ ?_ NB275_282.out _; refine sqK ?_; refine zJ ?_ NB275_282.out _; refine sqK ?_; exact BK275.out) hb); have n6_ := Aside0.mk (zd (g := gb282) (o := .cells #[.int .i64 t276, .int .i64 t277, .int .i64 t278, .slice Ao35 t279.length co35] 29 (0, 0)) (by refine sqK ?_; refine zL (cs := #[.int .i64 t276, .int .i64 t277, .int .i64 t278, .slice none 0 0]) ?_ 3 _ rfl; refine sqK ?_; refine zL (cs := #[.int .i64 t276, .int .i64 t277, .int .i64 0, .slice none 0 0]) ?_ 2 _ rfl; refine sqK ?_; refine zL (cs := #[.int .i64 t276, .int .i64 0, .int .i64 0, .slice none 0 0]) ?_ 1 _ rfl; refine sqK ?_; refine zL (cs := #[.int .i64 0, .int .i64 0, .int .i64 0, .slice none 0 0]) ?_ 0 _ rfl; refine sqK ?_; exact BK282.out) hb); have n7_ := Aside0.mk (ze sqB hb); clear HO270; clear HO274; clear HO281; clear BK263; clear BK275; clear BK282; clear HB; have HO270 := n0_; have HO274 := n1_; have HO281 := n2_; have HO286 := n3_; have BK263 := n4_; have BK275 := n5_; have BK282 := n6_; have HB := n7_; clear n0_ n1_ n2_ n3_ n4_ n5_ n6_ n7_; (try clear hb); (try clear hb2); (try clear hk); (try clear hi); (try clear ho0)) | ((with_reducible refine zq (N := 6) rfl ?_); refine zo ?hg (N := 6) ?hd (cs := #[.int .i64 0, .slice none 0 0]) (t := 27) ?hr ?_; (case hd => rfl); (case hg => rfl); (case hr => exact sqG); intro gb287 hg w37 hbox hb; have n0_ := Aside0.mk (Kd.zE (sqR HO270.out) hb); have n1_ := Aside0.mk (Kd.zE (sqR HO274.out) hb); have n2_ := Aside0.mk (Kd.zE (sqR HO281.out) hb); have n3_ := Aside0.mk (Kd.zE (sqR HO286.out) hb); have n4_ := Aside0.mk (zd (g := gb263) (o := .cells #[.int .i64 a0_0, .int .i64 a0_1, .int .i64 a0_2, .slice A0_3 l0_3.length c0_3] 24 (0, 0)) (sqK BK263.out) hb); have n5_ := Aside0.mk (zd (g := gb275) (o := .cells #[.int .i64 t271, .slice Ao28 t272.length co28] 27 (0, 0)) (sqK BK275.out) hb); have n6_ := Aside0.mk (zd (g := gb282) (o := .cells #[.int .i64 t276, .int .i64 t277, .int .i64 t278, .slice Ao35 t279.length co35] 29 (0, 0)) (sqK BK282.out) hb); have n7_ := Aside0.mk (ze sqB hb); have n8_ := Aside0.mk (hbox); have n9_ := Aside0.mk ((sqS hg : w.heap.size ≤ gb287)); have n10_ := Aside0.mk ((sqS hg : w.heap.size ≤ gb287)); have n11_ := Aside0.mk ((by rw [hg]; exact Nat.ne_of_lt (zz (g := gb263) (o := .cells #[.int .i64 a0_0, .int .i64 a0_1, .int .i64 a0_2, .slice A0_3 l0_3.length c0_3] 24 (0, 0)) (sqK BK263.out)) : gb263 ≠ gb287)); have n12_ := Aside0.mk ((by rw [hg]; exact Nat.ne_of_gt (zz (g := gb263) (o := .cells #[.int .i64 a0_0, .int .i64 a0_1, .int .i64 a0_2, .slice A0_3 l0_3.length c0_3] 24 (0, 0)) (sqK BK263.out)) : gb287 ≠ gb263)); have n13_ := Aside0.mk ((by rw [hg]; exact Nat.ne_of_lt (zz (g := gb275) (o := .cells #[.int .i64 t271, .slice Ao28 t272.length co28] 27 (0, 0)) (sqK BK275.out)) : gb275 ≠ gb287)); have n14_ := Aside0.mk ((by rw [hg]; exact Nat.ne_of_gt (zz (g := gb275) (o := .cells #[.int .i64 t271, .slice Ao28 t272.length co28] 27 (0, 0)) (sqK BK275.out)) : gb287 ≠ gb275)); have n15_ := Aside0.mk ((by rw [hg]; exact Nat.ne_of_lt (zz (g := gb282) (o := .cells #[.int .i64 t276, .int .i64 t277, .int .i64 t278, .slice Ao35 t279.length co35] 29 (0, 0)) (sqK BK282.out)) : gb282 ≠ gb287)); have n16_ := Aside0.mk ((by rw [hg]; exact Nat.ne_of_gt (zz (g := gb282) (o := .cells #[.int .i64 t276, .int .i64 t277, .int .i64 t278, .slice Ao35 t279.length co35] 29 (0, 0)) (sqK BK282.out)) : gb287 ≠ gb282)); clear HO270; clear HO274; clear HO281; clear HO286; clear BK263; clear BK275; clear BK282; clear HB; have HO270 := n0_; have HO274 := n1_; have HO281 := n2_; have HO286 := n3_; have BK263 := n4_; have BK275 := n5_; have BK282 := n6_; have HB := n7_; have BK287 := n8_; have GW287 := n9_; have GE287 := n10_; have NB263_287 := n11_; have NB287_263 := n12_; have NB275_287 := n13_; have NB287_275 := n14_; have NB282_287 := n15_; have NB287_282 := n16_; clear n0_ n1_ n2_ n3_ n4_ n5_ n6_ n7_ n8_ n9_ n10_ n11_ n12_ n13_ n14_ n15_ n16_; clear hb hbox hg; have hnb38 := NB287_263.out; have hnc38 := NB263_287.out; have hnb39 := NB287_275.out; have hnc39 := NB275_287.out; have hnb40 := NB287_282.out; have hnc40 := NB282_287.out; have hcz41_0 : w37.cell? ⟨gb287, 0, none⟩ = some (.int .i64 0) := (zb BK287.out 0).trans rfl; have hcz41_1 : w37.cell? ⟨gb287, 1, none⟩ = some (.slice none 0 0) := (zb BK287.out 1).trans rfl; have hfz41_0 := za BK287.out 0; have hfz41_1 := za BK287.out 1; obtain ⟨Ao42, co42, eo42⟩ := Kd.z8 HO286.out; subst eo42; have hcz43_0 : w37.cell? ⟨gb275, 0, none⟩ = some (.int .i64 t271) := (zb BK275.out 0).trans rfl; have hcz43_1 : w37.cell? ⟨gb275, 1, none⟩ = some (.slice Ao28 t272.length co28) := (zb BK275.out 1).trans rfl; have hfz43_0 := za BK275.out 0; have hfz43_1 := za BK275.out 1) | ((with_reducible refine zf (f := 8) rfl ?_); refine zu (some 25) rfl rfl Try.func8 (by kernel_rfl) rfl #[.agg #[.int .i64 t283, .slice Ao42 t284.length co42], .agg #[.int .i64 t271, .slice Ao28 t272.length co28]] rfl sqM ?_; (with_reducible refine (zw.calls k t283 _ _ t284 t271 _ _ t272 true _ ?side1 ?side2 ?side3 ?side4 A11.out).mono ?_); (case side1 => refine (Kd.zx (e := 3) (base := w.heap.size) (ok := fun k_ => (((True ∧ some k_ ≠ (.slice Ao23 t268.length co23 : Value).ownBlock) ∧ some k_ ≠ (.slice Ao28 t272.length co28 : Value).ownBlock) ∧ some k_ ≠ (.slice Ao35 t279.length co35 : Value).ownBlock)) (n := t284.length) (c := co42) ?_).2.2; exact (by refine sqR ?_; exact (Kd.zy (Kd.zF (p := ⟨gb287, 1, none⟩) (Kd.zF (p := ⟨gb287, 0, none⟩) (Kd.zV HO286.out BK287.out (by decide)) (fun _ hk => hk.2) (.int .i64 t283)) (fun _ hk => hk.2) (.slice Ao42 t284.length co42)) (fun _ h_ => h_.1)))); (case side2 => exact (Kd.zx HO286.out).2.1); (case side3 => refine (Kd.zx (e := 3) (base := w.heap.size) (ok := fun k_ => (((True ∧ some k_ ≠ (.slice Ao23 t268.length co23 : Value).ownBlock) ∧ some k_ ≠ (.slice Ao35 t279.length co35 : Value).ownBlock) ∧ some k_ ≠ (.slice Ao42 t284.length co42 : Value).ownBlock)) (n := t272.length) (c := co28) ?_).2.2; exact (by refine sqR ?_; exact (Kd.zy (Kd.zF (p := ⟨gb287, 1, none⟩) (Kd.zF (p := ⟨gb287, 0, none⟩) (Kd.zV HO274.out BK287.out (by decide)) (fun _ hk => hk.2) (.int .i64 t283)) (fun _ hk => hk.2) (.slice Ao42 t284.length co42)) (fun _ h_ => h_.1)))); (case side4 => exact (Kd.zx HO274.out).2.1); rintro e w44 ⟨rfl, hb⟩; refine ⟨_, rfl, ?_⟩; have n0_ := Aside0.mk (Kd.zE (by refine sqR ?_; exact (Kd.zy (Kd.zF (p := ⟨gb287, 1, none⟩) (Kd.zF (p := ⟨gb287, 0, none⟩) (Kd.zV HO270.out BK287.out (by decide)) (fun _ hk => hk.2) (.int .i64 t283)) (fun _ hk => hk.2) (.slice Ao42 t284.length co42)) (fun _ h_ => h_.1))) hb); have n1_ := Aside0.mk (Kd.zE (by refine sqR ?_; exact (Kd.zy (Kd.zF (p := ⟨gb287, 1, none⟩) (Kd.zF (p := ⟨gb287, 0, none⟩) (Kd.zV HO274.out BK287.out (by decide)) (fun _ hk => hk.2) (.int .i64 t283)) (fun _ hk => hk.2) (.slice Ao42 t284.length co42)) (fun _ h_ => h_.1))) hb); have n2_ := Aside0.mk (Kd.zE (by refine sqR ?_; exact (Kd.zy (Kd.zF (p := ⟨gb287, 1, none⟩) (Kd.zF (p := ⟨gb287, 0, none⟩) (Kd.zV HO281.out BK287.out (by decide)) (fun _ hk => hk.2) (.int .i64 t283)) (fun _ hk => hk.2) (.slice Ao42 t284.length co42)) (fun _ h_ => h_.1))) hb); have n3_ := Aside0.mk (Kd.zE (by refine sqR ?_; exact (Kd.zy (Kd.zF (p := ⟨gb287, 1, none⟩) (Kd.zF (p := ⟨gb287, 0, none⟩) (Kd.zV HO286.out BK287.out (by decide)) (fun _ hk => hk.2) (.int .i64 t283)) (fun _ hk => hk.2) (.slice Ao42 t284.length co42)) (fun _ h_ => h_.1))) hb); have n4_ := Aside0.mk (zd (g := gb263) (o := .cells #[.int .i64 a0_0, .int .i64 a0_1, .int .i64 a0_2, .slice A0_3 l0_3.length c0_3] 24 (0, 0)) (by refine sqK ?_; refine zJ ?_ NB263_287.out _; refine sqK ?_; refine zJ ?_ NB263_287.out _; refine sqK ?_; exact BK263.out) hb); have n5_ := Aside0.mk (zd (g := gb275) (o := .cells #[.int .i64 t271, .slice Ao28 t272.length co28] 27 (0, 0)) (by refine sqK ?_; refine zJ ?_ NB275_287.out _; refine sqK ?_; refine zJ ?_ NB275_287.out _; refine sqK ?_; exact BK275.out) hb); have n6_ := Aside0.mk (zd (g := gb282) (o := .cells #[.int .i64 t276, .int .i64 t277, .int .i64 t278, .slice Ao35 t279.length co35] 29 (0, 0)) (by refine sqK ?_; refine zJ ?_ NB282_287.out _; refine sqK ?_; refine zJ ?_ NB282_287.out _; refine sqK ?_; exact BK282.out) hb); have n7_ := Aside0.mk (zd (g := gb287) (o := .cells #[.int .i64 t283, .slice Ao42 t284.length co42] 27 (0, 0)) (by refine sqK ?_; refine zL (cs := #[.int .i64 t283, .slice none 0 0]) ?_ 1 _ rfl; refine sqK ?_; refine zL (cs := #[.int .i64 0, .slice none 0 0]) ?_ 0 _ rfl; refine sqK ?_; exact BK287.out) hb); have n8_ := Aside0.mk (ze sqB hb); clear HO270; clear HO274; clear HO281; clear HO286; clear BK263; clear BK275; clear BK282; clear BK287; clear HB; have HO270 := n0_; have HO274 := n1_; have HO281 := n2_; have HO286 := n3_; have BK263 := n4_; have BK275 := n5_; have BK282 := n6_; have BK287 := n7_; have HB := n8_; clear n0_ n1_ n2_ n3_ n4_ n5_ n6_ n7_ n8_; (try clear hb); (try clear hb2); (try clear hk); (try clear hi)))
    have n0_ := Aside0.mk (Kd.vx HO270.out)
    have n1_ := Aside0.mk (Kd.vx HO274.out)
    have n2_ := Aside0.mk (Kd.vx HO281.out)
    have n3_ := Aside0.mk (Kd.vx HO286.out)
    have n4_ := Aside0.mk (qL BK263.out)
    have n5_ := Aside0.mk (qL BK275.out)
    have n6_ := Aside0.mk (qL BK282.out)
    have n7_ := Aside0.mk (qL BK287.out)
    have n8_ := Aside0.mk (qf HB.out)
    clear HO270 HO274 HO281 HO286 BK263 BK275 BK282 BK287 HB; have HO270 := n0_; have HO274 := n1_; have HO281 := n2_; have HO286 := n3_; have BK263 := n4_; have BK275 := n5_; have BK282 := n6_; have BK287 := n7_; have HB := n8_; clear n0_ n1_ n2_ n3_ n4_ n5_ n6_ n7_ n8_
    refine y2 (n := 5) (S := fun w' => w'.cell? ⟨gb282, 0, none⟩ = some (.int .i64 t276) ∧ w'.cell? ⟨gb282, 1, none⟩ = some (.int .i64 t277) ∧ w'.cell? ⟨gb282, 2, none⟩ = some (.int .i64 t278) ∧ w'.cell? ⟨gb282, 3, none⟩ = some (.slice Ao35 t279.length co35) ∧ w'.cell? ⟨gb263, 0, none⟩ = some (.int .i64 a0_0) ∧ w'.cell? ⟨gb263, 1, none⟩ = some (.int .i64 a0_1) ∧ w'.cell? ⟨gb263, 2, none⟩ = some (.int .i64 a0_2) ∧ w'.cell? ⟨gb263, 3, none⟩ = some (.slice A0_3 l0_3.length c0_3)) (ds := []) #[false, false, false, false, false] (by kernel_rfl) rfl rfl ⟨(zb BK282.out 0).trans rfl, (zb BK282.out 1).trans rfl, (zb BK282.out 2).trans rfl, (zb BK282.out 3).trans rfl, (zb BK263.out 0).trans rfl, (zb BK263.out 1).trans rfl, (zb BK263.out 2).trans rfl, (zb BK263.out 3).trans rfl⟩ (fun hHeld => ?_)
    generalize w44.drew = w45 at HO270 HO274 HO281 HO286 BK263 BK275 BK282 BK287 HB hHeld ⊢
    refine jt (i := 0) (N := some 27) (v := ?_) (a' := ?_) #[true, false, false, false, false] rfl rfl (by kernel_rfl) (fun _ _ _ h => h) (Or.inl ⟨by rfl, ?_⟩) hHeld ?_ ?_
    rotate_left
    ·rintro w' ⟨s0, s1, s2, s3, s4, s5, s6, s7⟩; go_simp; with_reducible rfl
    rotate_left
    ·simp only [Act.put, List.setIfInBounds_toArray, List.set_cons_zero, List.set_cons_succ, zk, zm]; rfl
    refine jt (i := 1) (N := some 28) (v := ?_) (a' := ?_) #[true, true, false, false, false] rfl rfl (by kernel_rfl) (fun _ _ _ h => h) (Or.inl ⟨by rfl, ?_⟩) hHeld ?_ ?_
    rotate_left
    ·rintro w' ⟨s0, s1, s2, s3, s4, s5, s6, s7⟩; go_simp; with_reducible rfl
    rotate_left
    ·simp only [Act.put, List.setIfInBounds_toArray, List.set_cons_zero, List.set_cons_succ, zk, zm]; rfl
    refine Jb (i := 2) (N := some 29) #[true, true, true, false, false] rfl rfl (by kernel_rfl) (by decide) (fun K hK => ?_)
    refine Zk Try.func6 (by kernel_rfl) rfl #[.agg #[.int .i64 a0_0, .int .i64 a0_1, .int .i64 a0_2, .slice A0_3 l0_3.length c0_3]] (by rfl) rfl rfl sqM ?_
    with_reducible refine (zM.calls k a0_0 a0_1 a0_2 _ _ l0_3 t289 t290 t291 t292 _ ?side1 ?side2 A13.out).mono ?_
    (case side1 => exact sqC (Kd.zI HR0_3.out HB.out))
    (case side2 => exact HC0_3.out)
    rintro e w46 ⟨v293, rfl, ho0, hb⟩
    refine ⟨_, rfl, ?_⟩
    have n0_ := Aside0.mk (Kd.qz (sqR HO270.out) (Kd.qS ho0) hb)
    have n1_ := Aside0.mk (Kd.qz (sqR HO274.out) (Kd.qS ho0) hb)
    have n2_ := Aside0.mk (Kd.qz (sqR HO281.out) (Kd.qS ho0) hb)
    have n3_ := Aside0.mk (Kd.qz (sqR HO286.out) (Kd.qS ho0) hb)
    have n4_ := Aside0.mk (Kd.qq (Kd.ja (Kd.ja (Kd.ja (Kd.ja ho0 (Kd.vr (sqR HO270.out))) (Kd.vr (sqR HO274.out))) (Kd.vr (sqR HO281.out))) (Kd.vr (sqR HO286.out))) (zB sqB))
    have n5_ := Aside0.mk (zd (g := gb263) (o := .cells #[.int .i64 a0_0, .int .i64 a0_1, .int .i64 a0_2, .slice A0_3 l0_3.length c0_3] 24 (0, 0)) (sqK BK263.out) hb)
    have n6_ := Aside0.mk (zd (g := gb275) (o := .cells #[.int .i64 t271, .slice Ao28 t272.length co28] 27 (0, 0)) (sqK BK275.out) hb)
    have n7_ := Aside0.mk (zd (g := gb282) (o := .cells #[.int .i64 t276, .int .i64 t277, .int .i64 t278, .slice Ao35 t279.length co35] 29 (0, 0)) (sqK BK282.out) hb)
    have n8_ := Aside0.mk (zd (g := gb287) (o := .cells #[.int .i64 t283, .slice Ao42 t284.length co42] 27 (0, 0)) (sqK BK287.out) hb)
    have n9_ := Aside0.mk (ze sqB hb)
    clear HO270 HO274 HO281 HO286 BK263 BK275 BK282 BK287 HB; have HO270 := n0_; have HO274 := n1_; have HO281 := n2_; have HO286 := n3_; have HO294 := n4_; have BK263 := n5_; have BK275 := n6_; have BK282 := n7_; have BK287 := n8_; have HB := n9_; clear n0_ n1_ n2_ n3_ n4_ n5_ n6_ n7_ n8_ n9_; (try clear hb); (try clear hb2); (try clear hk); (try clear hi); (try clear ho0)
    obtain ⟨Ao47, co47, eo47⟩ := Kd.z8 HO294.out
    (first | subst eo47 | (injection eo47 with f1_ f2_ f3_; have f4_ := f1_.symm; have f5_ := f3_.symm; clear f1_ f2_ f3_; subst f4_; subst f5_))
    refine hK.out _ _ ⟨(zb BK282.out 0).trans rfl, (zb BK282.out 1).trans rfl, (zb BK282.out 2).trans rfl, (zb BK282.out 3).trans rfl, (zb BK263.out 0).trans rfl, (zb BK263.out 1).trans rfl, (zb BK263.out 2).trans rfl, (zb BK263.out 3).trans rfl⟩ (fun hHeld => ?_)
    clear hK K
    refine vt (a' := ?_) ?_ ?_
    rotate_left
    ·show Act.put _ (some 29) _ = _; simp only [Act.put, List.setIfInBounds_toArray, List.set_cons_zero, List.set_cons_succ, zk, zm]; rfl
    refine Jb (i := 3) (N := some 30) #[true, true, true, true, false] rfl rfl (by kernel_rfl) (by decide) (fun K hK => ?_)
    refine Zk Try.func9 (by kernel_rfl) rfl #[.agg #[.int .i64 t276, .int .i64 t277, .int .i64 t278, .slice Ao35 t279.length co35], .agg #[.int .i64 t289, .int .i64 t290, .int .i64 t291, .slice Ao47 t292.length co47]] (by rfl) rfl rfl sqM ?_
    with_reducible refine (qo.calls k t276 t277 t278 _ _ t279 t289 t290 t291 _ _ t292 true _ ?side1 ?side2 ?side3 ?side4 A14.out).mono ?_
    (case side1 => exact sqC (Kd.zx HO281.out).2.2)
    (case side2 => exact (Kd.zx HO281.out).2.1)
    (case side3 => exact sqC (Kd.zx HO294.out).2.2)
    (case side4 => exact (Kd.zx HO294.out).2.1)
    rintro e w48 ⟨rfl, hb⟩
    refine ⟨_, rfl, ?_⟩
    have n0_ := Aside0.mk (Kd.zE (sqR HO270.out) hb)
    have n1_ := Aside0.mk (Kd.zE (sqR HO274.out) hb)
    have n2_ := Aside0.mk (Kd.zE (sqR HO281.out) hb)
    have n3_ := Aside0.mk (Kd.zE (sqR HO286.out) hb)
    have n4_ := Aside0.mk (Kd.zE (sqR HO294.out) hb)
    have n5_ := Aside0.mk (zd (g := gb263) (o := .cells #[.int .i64 a0_0, .int .i64 a0_1, .int .i64 a0_2, .slice A0_3 l0_3.length c0_3] 24 (0, 0)) (sqK BK263.out) hb)
    have n6_ := Aside0.mk (zd (g := gb275) (o := .cells #[.int .i64 t271, .slice Ao28 t272.length co28] 27 (0, 0)) (sqK BK275.out) hb)
    have n7_ := Aside0.mk (zd (g := gb282) (o := .cells #[.int .i64 t276, .int .i64 t277, .int .i64 t278, .slice Ao35 t279.length co35] 29 (0, 0)) (sqK BK282.out) hb)
    have n8_ := Aside0.mk (zd (g := gb287) (o := .cells #[.int .i64 t283, .slice Ao42 t284.length co42] 27 (0, 0)) (sqK BK287.out) hb)
    have n9_ := Aside0.mk (ze sqB hb)
    clear HO270 HO274 HO281 HO286 HO294 BK263 BK275 BK282 BK287 HB; have HO270 := n0_; have HO274 := n1_; have HO281 := n2_; have HO286 := n3_; have HO294 := n4_; have BK263 := n5_; have BK275 := n6_; have BK282 := n7_; have BK287 := n8_; have HB := n9_; clear n0_ n1_ n2_ n3_ n4_ n5_ n6_ n7_ n8_ n9_; (try clear hb); (try clear hb2); (try clear hk); (try clear hi)
    refine hK.out _ _ ⟨(zb BK282.out 0).trans rfl, (zb BK282.out 1).trans rfl, (zb BK282.out 2).trans rfl, (zb BK282.out 3).trans rfl, (zb BK263.out 0).trans rfl, (zb BK263.out 1).trans rfl, (zb BK263.out 2).trans rfl, (zb BK263.out 3).trans rfl⟩ (fun hHeld => ?_)
    clear hK K
    refine vt (a' := ?_) ?_ ?_
    rotate_left
    ·show Act.put _ (some 30) _ = _; simp only [Act.put, List.setIfInBounds_toArray, List.set_cons_zero, List.set_cons_succ, zk, zm]; rfl
    refine zO (i := 4) (N := some 31) (v := ?_) (a' := ?_) #[true, true, true, true, true] rfl rfl (by kernel_rfl) (fun _ _ _ h => h) (Or.inl ⟨by rfl, ?_⟩) ?_ ?_
    rotate_left
    ·intro w'; go_simp; with_reducible rfl
    rotate_left
    ·simp only [Act.put, List.setIfInBounds_toArray, List.set_cons_zero, List.set_cons_succ, zk, zm]; rfl
    refine Qx (by kernel_rfl) ?_
    have hcz49_0 : w48.cell? ⟨gb282, 0, none⟩ = some (.int .i64 t276) := (zb BK282.out 0).trans rfl
    have hcz49_1 : w48.cell? ⟨gb282, 1, none⟩ = some (.int .i64 t277) := (zb BK282.out 1).trans rfl
    have hcz49_2 : w48.cell? ⟨gb282, 2, none⟩ = some (.int .i64 t278) := (zb BK282.out 2).trans rfl
    have hcz49_3 : w48.cell? ⟨gb282, 3, none⟩ = some (.slice Ao35 t279.length co35) := (zb BK282.out 3).trans rfl
    have hfz49_0 := za BK282.out 0; have hfz49_1 := za BK282.out 1; have hfz49_2 := za BK282.out 2; have hfz49_3 := za BK282.out 3
    go_upto_region 14 with (first | ((with_reducible refine zf (f := 10) rfl ?_); refine zu (some 34) rfl rfl Try.func10 (by kernel_rfl) rfl #[.agg #[.int .i64 t276, .int .i64 t277, .int .i64 t278, .slice Ao35 t279.length co35], .int .i64 1] rfl sqM ?_; (with_reducible refine (zZ.calls k t276 t277 t278 (fun k_ => some k_ = (.slice Ao35 t279.length co35 : Value).ownBlock) (.slice Ao35 t279.length co35) t279 1 t296 t297 w _ ?side1 ?side2 A16.out).mono ?_); (case side1 => repeat (first | (with_reducible first | exact HB.out | apply qw | apply z7 | apply qf | refine qa ?_ GE263.out | refine qa ?_ GE275.out | refine qa ?_ GE282.out | refine qa ?_ GE287.out) | exact HB.out)); (case side2 => exact Kd.yH rfl HO281.out); rintro e w50 ⟨rfl, hy0, hb, hkp⟩; refine ⟨_, rfl, ?_⟩; have n0_ := Aside0.mk (jU (sqK BK263.out) hkp (fun hs_ => (fun e_ => (Kd.vz HO281.out BK263.out (by decide)) e_) hs_)); have n1_ := Aside0.mk (Kd.zy (ok' := fun k_ => some k_ ≠ (.slice Ao28 t272.length co28 : Value).ownBlock ∧ some k_ ≠ (.slice Ao35 t279.length co35 : Value).ownBlock ∧ some k_ ≠ (.slice Ao42 t284.length co42 : Value).ownBlock ∧ some k_ ≠ (.slice Ao47 t292.length co47 : Value).ownBlock) (Kd.Zh (HO270.out) hkp (fun k_ hk_ hs_ => by first | exact hk_.1.1.2 hs_ | (have e_ : some k_ = _ := hs_; simp only [e_, ne_eq, not_true_eq_false, and_false, false_and] at hk_))) (fun k_ hk_ => by first | exact ⟨hk_.1.1.1.1.2, hk_.1.1.1.2, hk_.1.1.2, hk_.1.2⟩ | (refine ⟨?_, ?_, ?_, ?_⟩ <;> intro e_ <;> simp only [e_, ne_eq, not_true_eq_false, and_false, false_and] at hk_))); have n2_ := Aside0.mk (Kd.zy (ok' := fun k_ => some k_ ≠ (.slice Ao23 t268.length co23 : Value).ownBlock ∧ some k_ ≠ (.slice Ao35 t279.length co35 : Value).ownBlock ∧ some k_ ≠ (.slice Ao42 t284.length co42 : Value).ownBlock ∧ some k_ ≠ (.slice Ao47 t292.length co47 : Value).ownBlock) (Kd.Zh (HO274.out) hkp (fun k_ hk_ hs_ => by first | exact hk_.1.1.2 hs_ | (have e_ : some k_ = _ := hs_; simp only [e_, ne_eq, not_true_eq_false, and_false, false_and] at hk_))) (fun k_ hk_ => by first | exact ⟨hk_.1.1.1.1.2, hk_.1.1.1.2, hk_.1.1.2, hk_.1.2⟩ | (refine ⟨?_, ?_, ?_, ?_⟩ <;> intro e_ <;> simp only [e_, ne_eq, not_true_eq_false, and_false, false_and] at hk_))); have n3_ := Aside0.mk (jU (sqK BK275.out) hkp (fun hs_ => (fun e_ => (Kd.vz HO281.out BK275.out (by decide)) e_) hs_)); have n4_ := Aside0.mk (Kd.Ve rfl hy0 (fun k_ e_ => HO281.out.1 k_ e_)); have n5_ := Aside0.mk (jU (sqK BK282.out) hkp (fun hs_ => (fun e_ => (Kd.vz HO281.out BK282.out (by decide)) e_) hs_)); have n6_ := Aside0.mk (Kd.zy (ok' := fun k_ => some k_ ≠ (.slice Ao23 t268.length co23 : Value).ownBlock ∧ some k_ ≠ (.slice Ao28 t272.length co28 : Value).ownBlock ∧ some k_ ≠ (.slice Ao35 t279.length co35 : Value).ownBlock ∧ some k_ ≠ (.slice Ao47 t292.length co47 : Value).ownBlock) (Kd.Zh (HO286.out) hkp (fun k_ hk_ hs_ => by first | exact hk_.1.2 hs_ | (have e_ : some k_ = _ := hs_; simp only [e_, ne_eq, not_true_eq_false, and_false, false_and] at hk_))) (fun k_ hk_ => by first | exact ⟨hk_.1.1.1.1.2, hk_.1.1.1.2, hk_.1.1.2, hk_.1.2⟩ | (refine ⟨?_, ?_, ?_, ?_⟩ <;> intro e_ <;> simp only [e_, ne_eq, not_true_eq_false, and_false, false_and] at hk_))); have n7_ := Aside0.mk (jU (sqK BK287.out) hkp (fun hs_ => (fun e_ => (Kd.vz HO281.out BK287.out (by decide)) e_) hs_)); have n8_ := Aside0.mk (Kd.zy (ok' := fun k_ => some k_ ≠ (.slice Ao23 t268.length co23 : Value).ownBlock ∧ some k_ ≠ (.slice Ao28 t272.length co28 : Value).ownBlock ∧ some k_ ≠ (.slice Ao35 t279.length co35 : Value).ownBlock ∧ some k_ ≠ (.slice Ao42 t284.length co42 : Value).ownBlock) (Kd.Zh (HO294.out) hkp (fun k_ hk_ hs_ => by first | exact hk_.1.2 hs_ | (have e_ : some k_ = _ := hs_; simp only [e_, ne_eq, not_true_eq_false, and_false, false_and] at hk_))) (fun k_ hk_ => by first | exact ⟨hk_.1.1.1.1.2, hk_.1.1.1.2, hk_.1.1.2, hk_.1.2⟩ | (refine ⟨?_, ?_, ?_, ?_⟩ <;> intro e_ <;> simp only [e_, ne_eq, not_true_eq_false, and_false, false_and] at hk_))); have n9_ := Aside0.mk (hb); clear BK263; clear HO270; clear HO274; clear BK275; clear HO281; clear BK282; clear HO286; clear BK287; clear HO294; clear HB; have BK263 := n0_; have HO270 := n1_; have HO274 := n2_; have BK275 := n3_; have HO281 := n4_; have BK282 := n5_; have HO286 := n6_; have BK287 := n7_; have HO294 := n8_; have HB := n9_; clear n0_ n1_ n2_ n3_ n4_ n5_ n6_ n7_ n8_ n9_; (try clear hb); (try clear hkp); (try clear hy0)))
    (try simp only [Act.put, List.setIfInBounds_toArray, List.set_cons_zero, List.set_cons_succ])
    go_cut [42] (fun v42 wc => ∃ (kq : Nat) (x42_16 : Bool), v42 = .bool x42_16 ∧ Aside0 (zh.j0 kq x42_16 a0_0 a0_1 a0_2 l0_3 t271 t272 t283 t284 = some r) ∧ Aside0 (kq ≤ k) ∧ Aside0 (Kd.R (Kd.int .i64) 3 wc w.heap.size (fun k_ => some k_ ≠ ((.slice Ao35 t279.length co35) : Value).ownBlock ∧ some k_ ≠ ((.slice Ao42 t284.length co42) : Value).ownBlock) (.slice Ao28 t272.length co28) t272) ∧ Aside0 (Kd.R (Kd.int .i64) 3 wc w.heap.size (fun k_ => some k_ ≠ ((.slice Ao28 t272.length co28) : Value).ownBlock ∧ some k_ ≠ ((.slice Ao42 t284.length co42) : Value).ownBlock) (.slice Ao35 t279.length co35) t297) ∧ Aside0 (Kd.R (Kd.int .i64) 3 wc w.heap.size (fun k_ => some k_ ≠ ((.slice Ao28 t272.length co28) : Value).ownBlock ∧ some k_ ≠ ((.slice Ao35 t279.length co35) : Value).ownBlock) (.slice Ao42 t284.length co42) t284) ∧ Aside0 (wc.heap[gb263]? = some (.cells #[.int .i64 a0_0, .int .i64 a0_1, .int .i64 a0_2, (.slice A0_3 l0_3.length c0_3)] 24 (0, 0))) ∧ Aside0 (wc.heap[gb275]? = some (.cells #[.int .i64 t271, (.slice Ao28 t272.length co28)] 27 (0, 0))) ∧ Aside0 (wc.heap[gb282]? = some (.cells #[.int .i64 t276, .int .i64 t277, .int .i64 t278, (.slice Ao35 t279.length co35)] 29 (0, 0))) ∧ Aside0 (wc.heap[gb287]? = some (.cells #[.int .i64 t283, (.slice Ao42 t284.length co42)] 27 (0, 0))) ∧ Aside0 (Below w.heap.size w wc))
    case first =>
     have H := HC17.out
     clear HC17
     by_cases c51 : t296 < 0
     ·rw [if_pos c51] at H
      have c51b0 : decide (t296 < 0) = true := decide_eq_true c51
      clear c51
      (first | rw [c51b0] | (simp only [zk, zm]; rw [c51b0]) | skip)
      have H' := Aside0.mk H
      clear H
      go_wp2
      go_meet
      case rel => exact ⟨_, (true), (sqD), H', ⟨by first | omega | exact Nat.le_refl _⟩, ⟨by refine sqR ?_; exact Kd.zy HO274.out (fun _ hk => by first | exact ⟨hk.2.1, hk.2.2.1⟩ | (refine ⟨?_, ?_⟩ <;> intro e_ <;> simp only [e_, ne_eq, not_true_eq_false, and_false, false_and] at hk))⟩, ⟨by refine sqR ?_; exact Kd.zy HO281.out (fun _ hk => by first | exact ⟨hk.1.1.2, hk.1.2⟩ | (refine ⟨?_, ?_⟩ <;> intro e_ <;> simp only [e_, ne_eq, not_true_eq_false, and_false, false_and] at hk))⟩, ⟨by refine sqR ?_; exact Kd.zy HO286.out (fun _ hk => by first | exact ⟨hk.2.1, hk.2.2.1⟩ | (refine ⟨?_, ?_⟩ <;> intro e_ <;> simp only [e_, ne_eq, not_true_eq_false, and_false, false_and] at hk))⟩, ⟨sqK BK263.out⟩, ⟨sqK BK275.out⟩, ⟨sqK BK282.out⟩, ⟨sqK BK287.out⟩, ⟨sqB⟩⟩
     ·rw [if_neg c51] at H
      have c51b0 : decide (t296 < 0) = false := decide_eq_false c51
      clear c51
      (first | rw [c51b0] | (simp only [zk, zm]; rw [c51b0]) | skip)
      replace H := Option.bind_eq_some_iff.mp H
      obtain ⟨t298, A520, H⟩ := H
      replace H : (zh.j0 k (!t298) a0_0 a0_1 a0_2 l0_3 t271 t272 t283 t284) = some r := H
      have A52 := Aside0.mk A520
      clear A520
      have H' := Aside0.mk H
      clear H
      have hnb53 := NB287_263.out
      have hnc53 := NB263_287.out
      have hnb54 := NB287_275.out
      have hnc54 := NB275_287.out
      have hnb55 := NB287_282.out
      have hnc55 := NB282_287.out
      have hcz56_0 : w50.cell? ⟨gb287, 0, none⟩ = some (.int .i64 t283) := (zb BK287.out 0).trans rfl
      have hcz56_1 : w50.cell? ⟨gb287, 1, none⟩ = some (.slice Ao42 t284.length co42) := (zb BK287.out 1).trans rfl
      have hfz56_0 := za BK287.out 0; have hfz56_1 := za BK287.out 1
      have hnb57 := NB275_263.out
      have hnc57 := NB263_275.out
      have hnb58 := NB275_282.out
      have hnc58 := NB282_275.out
      have hcz59_0 : w50.cell? ⟨gb275, 0, none⟩ = some (.int .i64 t271) := (zb BK275.out 0).trans rfl
      have hcz59_1 : w50.cell? ⟨gb275, 1, none⟩ = some (.slice Ao28 t272.length co28) := (zb BK275.out 1).trans rfl
      have hfz59_0 := za BK275.out 0; have hfz59_1 := za BK275.out 1
      go_wp2_with (first | (go_at_call 8; (try simp only [zk, zm]); (with_reducible refine (zw.calls k t283 _ _ t284 t271 _ _ t272 t298 _ ?side1 ?side2 ?side3 ?side4 A52.out).mono ?_); (case side1 => exact sqC (Kd.zx HO286.out).2.2); (case side2 => exact (Kd.zx HO286.out).2.1); (case side3 => exact sqC (Kd.zx HO274.out).2.2); (case side4 => exact (Kd.zx HO274.out).2.1); rintro e w60 ⟨rfl, hb⟩; have n0_ := Aside0.mk (Kd.zE (sqR HO270.out) hb); have n1_ := Aside0.mk (Kd.zE (sqR HO274.out) hb); have n2_ := Aside0.mk (Kd.zE (sqR HO281.out) hb); have n3_ := Aside0.mk (Kd.zE (sqR HO286.out) hb); have n4_ := Aside0.mk (Kd.zE (sqR HO294.out) hb); have n5_ := Aside0.mk (zd (g := gb263) (o := .cells #[.int .i64 a0_0, .int .i64 a0_1, .int .i64 a0_2, .slice A0_3 l0_3.length c0_3] 24 (0, 0)) (sqK BK263.out) hb); have n6_ := Aside0.mk (zd (g := gb275) (o := .cells #[.int .i64 t271, .slice Ao28 t272.length co28] 27 (0, 0)) (sqK BK275.out) hb); have n7_ := Aside0.mk (zd (g := gb282) (o := .cells #[.int .i64 t276, .int .i64 t277, .int .i64 t278, .slice Ao35 t279.length co35] 29 (0, 0)) (sqK BK282.out) hb); have n8_ := Aside0.mk (zd (g := gb287) (o := .cells #[.int .i64 t283, .slice Ao42 t284.length co42] 27 (0, 0)) (sqK BK287.out) hb); have n9_ := Aside0.mk (ze sqB hb); clear HO270; clear HO274; clear HO281; clear HO286; clear HO294; clear BK263; clear BK275; clear BK282; clear BK287; clear HB; have HO270 := n0_; have HO274 := n1_; have HO281 := n2_; have HO286 := n3_; have HO294 := n4_; have BK263 := n5_; have BK275 := n6_; have BK282 := n7_; have BK287 := n8_; have HB := n9_; clear n0_ n1_ n2_ n3_ n4_ n5_ n6_ n7_ n8_ n9_; (try clear hb); (try clear hb2); (try clear hk); (try clear hi)))
      go_meet
      case rel => exact ⟨_, (!t298), (sqD), H', ⟨by first | omega | exact Nat.le_refl _⟩, ⟨by refine sqR ?_; exact Kd.zy HO274.out (fun _ hk => by first | exact ⟨hk.2.1, hk.2.2.1⟩ | (refine ⟨?_, ?_⟩ <;> intro e_ <;> simp only [e_, ne_eq, not_true_eq_false, and_false, false_and] at hk))⟩, ⟨by refine sqR ?_; exact Kd.zy HO281.out (fun _ hk => by first | exact ⟨hk.1.1.2, hk.1.2⟩ | (refine ⟨?_, ?_⟩ <;> intro e_ <;> simp only [e_, ne_eq, not_true_eq_false, and_false, false_and] at hk))⟩, ⟨by refine sqR ?_; exact Kd.zy HO286.out (fun _ hk => by first | exact ⟨hk.2.1, hk.2.2.1⟩ | (refine ⟨?_, ?_⟩ <;> intro e_ <;> simp only [e_, ne_eq, not_true_eq_false, and_false, false_and] at hk))⟩, ⟨sqK BK263.out⟩, ⟨sqK BK275.out⟩, ⟨sqK BK282.out⟩, ⟨sqK BK287.out⟩, ⟨sqB⟩⟩
    case rest =>
     clear HC17
     try clear c1
     try clear c2
     try clear p2
     try clear c3
     try clear c3b0
     try clear c4
     try clear c5
     try clear c6
     try clear c7
     try clear c8
     try clear c9
     try clear c10
     try clear c12
     try clear c15
     try clear c26
     try clear c32
     try clear c33
     try clear c38
     try clear c39
     try clear c40
     try clear c51
     try clear c51b0
     try clear c53
     try clear c54
     try clear c55
     try clear c57
     try clear c58
     try clear hcz19_0
     try clear hcz19_1
     try clear hcz19_2
     try clear hcz19_3
     try clear hcz21_0
     try clear hcz21_1
     try clear hcz21_2
     try clear hcz21_3
     try clear hcz27_0
     try clear hcz27_1
     try clear hcz29_0
     try clear hcz29_1
     try clear hcz29_2
     try clear hcz29_3
     try clear hcz34_0
     try clear hcz34_1
     try clear hcz34_2
     try clear hcz34_3
     try clear hcz41_0
     try clear hcz41_1
     try clear hcz43_0
     try clear hcz43_1
     try clear hcz49_0
     try clear hcz49_1
     try clear hcz49_2
     try clear hcz49_3
     try clear hcz56_0
     try clear hcz56_1
     try clear hcz59_0
     try clear hcz59_1
     try clear hcz5_0
     try clear hcz5_1
     try clear hcz5_2
     try clear hcz5_3
     try clear hfz19_0
     try clear hfz19_1
     try clear hfz19_2
     try clear hfz19_3
     try clear hfz21_0
     try clear hfz21_1
     try clear hfz21_2
     try clear hfz21_3
     try clear hfz27_0
     try clear hfz27_1
     try clear hfz29_0
     try clear hfz29_1
     try clear hfz29_2
     try clear hfz29_3
     try clear hfz34_0
     try clear hfz34_1
     try clear hfz34_2
     try clear hfz34_3
     try clear hfz41_0
     try clear hfz41_1
     try clear hfz43_0
     try clear hfz43_1
     try clear hfz49_0
     try clear hfz49_1
     try clear hfz49_2
     try clear hfz49_3
     try clear hfz56_0
     try clear hfz56_1
     try clear hfz59_0
     try clear hfz59_1
     try clear hfz5_0
     try clear hfz5_1
     try clear hfz5_2
     try clear hfz5_3
     obtain ⟨kq, x42_16, rfl, HA, HJ16, HO_276001, HO_283003, HO_288001, BK263, BK275, BK282, BK287, HB⟩ := hcut
     have hl283003_16 := (Kd.zx HO_283003.out).1
     rw [hl283003_16] at HO_283003
     (try simp only [hl283003_16])
     (try simp only [hl283003_16] at BK263)
     (try simp only [hl283003_16] at BK275)
     (try simp only [hl283003_16] at BK282)
     (try simp only [hl283003_16] at BK287)
     (try simp only [hl283003_16] at HO_276001)
     (try simp only [hl283003_16] at HO_288001)
     cases kq with
     | zero => exact absurd HA.out (by simp [zh.j0])
     | succ kj16 =>
      have H := HA.out
      clear HA
      simp only [zh.j0] at H
      by_cases c61 : x42_16 = true
      ·subst c61
       have H1 : (none) = some r := by rw [if_pos rfl] at H; exact H
       clear H
       have H := H1
       clear H1
       exact absurd H (by simp)
      ·replace c61 := Bool.eq_false_iff.mpr c61
       subst c61
       have H1 : ((qR.f kj16 t283 t284 1).bind fun bt299 => ((zU.f kj16 t283 bt299.2 1).bind fun t301 => (if t301 < 0 then (none) else (if t301 = bt299.1 then ((zM.f kj16 a0_0 a0_1 a0_2 l0_3).bind fun bt302 => ((zH.f kj16 bt302.1 bt302.2.1 bt302.2.2.1 bt302.2.2.2).bind fun bt308 => ((zw.f kj16 bt308.1 bt308.2 t271 t272).bind fun t313 => (if t313 = true then ((zU.f kj16 t283 bt299.2 1).bind fun t314 => (if t314 < 0 then (none) else (if t314 = bt299.1 then (some true) else (none)))) else (none))))) else (none))))) = some r := by rw [if_neg (show ¬ (false = true) by decide)] at H; exact H
       clear H
       have H := H1
       clear H1
       replace H := Option.bind_eq_some_iff.mp H
       obtain ⟨⟨t299, t300⟩, A620, H⟩ := H
       replace H : ((zU.f kj16 t283 t300 1).bind fun t301 => (if t301 < 0 then (none) else (if t301 = t299 then ((zM.f kj16 a0_0 a0_1 a0_2 l0_3).bind fun bt302 => ((zH.f kj16 bt302.1 bt302.2.1 bt302.2.2.1 bt302.2.2.2).bind fun bt308 => ((zw.f kj16 bt308.1 bt308.2 t271 t272).bind fun t313 => (if t313 = true then ((zU.f kj16 t283 t300 1).bind fun t314 => (if t314 < 0 then (none) else (if t314 = t299 then (some true) else (none)))) else (none))))) else (none)))) = some r := H
       have A62 := Aside0.mk A620
       clear A620
       replace H := Option.bind_eq_some_iff.mp H
       obtain ⟨t301, A630, H⟩ := H
       replace H : (if t301 < 0 then (none) else (if t301 = t299 then ((zM.f kj16 a0_0 a0_1 a0_2 l0_3).bind fun bt302 => ((zH.f kj16 bt302.1 bt302.2.1 bt302.2.2.1 bt302.2.2.2).bind fun bt308 => ((zw.f kj16 bt308.1 bt308.2 t271 t272).bind fun t313 => (if t313 = true then ((zU.f kj16 t283 t300 1).bind fun t314 => (if t314 < 0 then (none) else (if t314 = t299 then (some true) else (none)))) else (none))))) else (none))) = some r := H
       have A63 := Aside0.mk A630
       clear A630
       by_cases c64 : t301 < 0
       ·rw [if_pos c64] at H
        exact absurd H (by simp)
       ·rw [if_neg c64] at H
        have c64b0 : decide (t301 < 0) = false := decide_eq_false c64
        clear c64
        by_cases c65 : t301 = t299
        ·rw [if_pos c65] at H
         have c65b0 : (t301 == t299) = true := beq_iff_eq.mpr c65
         have c65b1 : (t301 != t299) = false := bne_eq_false_iff_eq.mpr c65
         clear c65
         replace H := Option.bind_eq_some_iff.mp H
         obtain ⟨⟨t302, t303, t304, t305⟩, A660, H⟩ := H
         replace H : ((zH.f kj16 t302 t303 t304 t305).bind fun bt308 => ((zw.f kj16 bt308.1 bt308.2 t271 t272).bind fun t313 => (if t313 = true then ((zU.f kj16 t283 t300 1).bind fun t314 => (if t314 < 0 then (none) else (if t314 = t299 then (some true) else (none)))) else (none)))) = some r := H
         have A66 := Aside0.mk A660
         clear A660
         replace H := Option.bind_eq_some_iff.mp H
         obtain ⟨⟨t308, t309⟩, A670, H⟩ := H
         replace H : ((zw.f kj16 t308 t309 t271 t272).bind fun t313 => (if t313 = true then ((zU.f kj16 t283 t300 1).bind fun t314 => (if t314 < 0 then (none) else (if t314 = t299 then (some true) else (none)))) else (none))) = some r := H
         have A67 := Aside0.mk A670
         clear A670
         replace H := Option.bind_eq_some_iff.mp H
         obtain ⟨t313, A680, H⟩ := H
         replace H : (if t313 = true then ((zU.f kj16 t283 t300 1).bind fun t314 => (if t314 < 0 then (none) else (if t314 = t299 then (some true) else (none)))) else (none)) = some r := H
         have A68 := Aside0.mk A680
         clear A680
         by_cases c69 : t313 = true
         ·subst c69
          have H1 : ((zU.f kj16 t283 t300 1).bind fun t314 => (if t314 < 0 then (none) else (if t314 = t299 then (some true) else (none)))) = some r := by rw [if_pos rfl] at H; exact H
          clear H
          have H := H1
          clear H1
          replace H := Option.bind_eq_some_iff.mp H
          obtain ⟨t314, A700, H⟩ := H
          replace H : (if t314 < 0 then (none) else (if t314 = t299 then (some true) else (none))) = some r := H
          have A70 := Aside0.mk A700
          clear A700
          by_cases c71 : t314 < 0
          ·rw [if_pos c71] at H
           exact absurd H (by simp)
          ·rw [if_neg c71] at H
           have c71b0 : decide (t314 < 0) = false := decide_eq_false c71
           clear c71
           by_cases c72 : t314 = t299
           ·rw [if_pos c72] at H
            have c72b0 : (t314 == t299) = true := beq_iff_eq.mpr c72
            have c72b1 : (t314 != t299) = false := bne_eq_false_iff_eq.mpr c72
            clear c72
            obtain rfl := Option.some.inj H
            have hnb73 := NB287_263.out
            have hnc73 := NB263_287.out
            have hnb74 := NB287_275.out
            have hnc74 := NB275_287.out
            have hnb75 := NB287_282.out
            have hnc75 := NB282_287.out
            have hcz76_0 : wc.cell? ⟨gb287, 0, none⟩ = some (.int .i64 t283) := (zb BK287.out 0).trans rfl
            have hcz76_1 : wc.cell? ⟨gb287, 1, none⟩ = some (.slice Ao42 t284.length co42) := (zb BK287.out 1).trans rfl
            have hfz76_0 := za BK287.out 0; have hfz76_1 := za BK287.out 1
            go_wp2_with (first | ((with_reducible refine zf (f := 11) rfl ?_); refine zu (some 45) rfl rfl Try.func11 (by kernel_rfl) rfl #[.agg #[.int .i64 t283, .slice Ao42 t284.length co42], .int .i64 1] rfl sqM ?_; (with_reducible refine (qR.calls kj16 t283 (fun k_ => some k_ = (.slice Ao42 t284.length co42 : Value).ownBlock) (.slice Ao42 t284.length co42) t284 1 t299 t300 w _ ?side1 ?side2 A62.out).mono ?_); (case side1 => repeat (first | (with_reducible first | exact HB.out | apply qw | apply z7 | apply qf | refine qa ?_ GE263.out | refine qa ?_ GE275.out | refine qa ?_ GE282.out | refine qa ?_ GE287.out) | exact HB.out)); (case side2 => exact Kd.yH rfl HO_288001.out); rintro e w77 ⟨rfl, hy0, hb, hkp⟩; refine ⟨_, rfl, ?_⟩; have n0_ := Aside0.mk (Kd.zy (ok' := fun k_ => some k_ ≠ (.slice Ao35 t297.length co35 : Value).ownBlock ∧ some k_ ≠ (.slice Ao42 t284.length co42 : Value).ownBlock) (Kd.Zh (HO_276001.out) hkp (fun k_ hk_ hs_ => by first | exact hk_.2 hs_ | (have e_ : some k_ = _ := hs_; simp only [e_, ne_eq, not_true_eq_false, and_false, false_and] at hk_))) (fun k_ hk_ => by first | exact ⟨hk_.1.1, hk_.1.2⟩ | (refine ⟨?_, ?_⟩ <;> intro e_ <;> simp only [e_, ne_eq, not_true_eq_false, and_false, false_and] at hk_))); have n1_ := Aside0.mk (Kd.zy (ok' := fun k_ => some k_ ≠ (.slice Ao28 t272.length co28 : Value).ownBlock ∧ some k_ ≠ (.slice Ao42 t284.length co42 : Value).ownBlock) (Kd.Zh (HO_283003.out) hkp (fun k_ hk_ hs_ => by first | exact hk_.2 hs_ | (have e_ : some k_ = _ := hs_; simp only [e_, ne_eq, not_true_eq_false, and_false, false_and] at hk_))) (fun k_ hk_ => by first | exact ⟨hk_.1.1, hk_.1.2⟩ | (refine ⟨?_, ?_⟩ <;> intro e_ <;> simp only [e_, ne_eq, not_true_eq_false, and_false, false_and] at hk_))); have n2_ := Aside0.mk (Kd.Ve rfl hy0 (fun k_ e_ => HO_288001.out.1 k_ e_)); have n3_ := Aside0.mk (jU (sqK BK263.out) hkp (fun hs_ => (fun e_ => (Kd.vz HO_288001.out BK263.out (by decide)) e_) hs_)); have n4_ := Aside0.mk (jU (sqK BK275.out) hkp (fun hs_ => (fun e_ => (Kd.vz HO_288001.out BK275.out (by decide)) e_) hs_)); have n5_ := Aside0.mk (jU (sqK BK282.out) hkp (fun hs_ => (fun e_ => (Kd.vz HO_288001.out BK282.out (by decide)) e_) hs_)); have n6_ := Aside0.mk (jU (sqK BK287.out) hkp (fun hs_ => (fun e_ => (Kd.vz HO_288001.out BK287.out (by decide)) e_) hs_)); have n7_ := Aside0.mk (hb); clear HO_276001; clear HO_283003; clear HO_288001; clear BK263; clear BK275; clear BK282; clear BK287; clear HB; have HO_276001 := n0_; have HO_283003 := n1_; have HO_288001 := n2_; have BK263 := n3_; have BK275 := n4_; have BK282 := n5_; have BK287 := n6_; have HB := n7_; clear n0_ n1_ n2_ n3_ n4_ n5_ n6_ n7_; (try clear hb); (try clear hkp); (try clear hy0); have hcz78_0 : w77.cell? ⟨gb287, 0, none⟩ = some (.int .i64 t283) := (zb BK287.out 0).trans rfl; have hcz78_1 : w77.cell? ⟨gb287, 1, none⟩ = some (.slice Ao42 t284.length co42) := (zb BK287.out 1).trans rfl; have hfz78_0 := za BK287.out 0; have hfz78_1 := za BK287.out 1) | ((with_reducible refine zf (f := 12) rfl ?_); refine zu (some 48) rfl rfl Try.func12 (by kernel_rfl) rfl #[.agg #[.int .i64 t283, .slice Ao42 t300.length co42], .int .i64 1] rfl (by (try simp only [List.map_toArray, List.map_cons, List.map_nil]); first | done | (rw [show t300.length = t284.length from (Kd.zx HO_288001.out).1.symm] <;> rfl) | rfl | (simp only [List.length_drop, List.length_take]; rfl)) ?_; (with_reducible refine (zU.calls kj16 t283 _ _ t300 1 t301 _ ?side1 ?side2 A63.out).mono ?_); (case side1 => exact sqC (Kd.zx HO_288001.out).2.2); (case side2 => rw [show t300.length = t284.length from (Kd.zx HO_288001.out).1.symm]; exact (Kd.zx HO_288001.out).2.1); rintro e w79 ⟨rfl, hb⟩; refine ⟨_, rfl, ?_⟩; have n0_ := Aside0.mk (Kd.zE (sqR HO_276001.out) hb); have n1_ := Aside0.mk (Kd.zE (sqR HO_283003.out) hb); have n2_ := Aside0.mk (Kd.zE (sqR HO_288001.out) hb); have n3_ := Aside0.mk (zd (g := gb263) (o := .cells #[.int .i64 a0_0, .int .i64 a0_1, .int .i64 a0_2, .slice A0_3 l0_3.length c0_3] 24 (0, 0)) (sqK BK263.out) hb); have n4_ := Aside0.mk (zd (g := gb275) (o := .cells #[.int .i64 t271, .slice Ao28 t272.length co28] 27 (0, 0)) (sqK BK275.out) hb); have n5_ := Aside0.mk (zd (g := gb282) (o := .cells #[.int .i64 t276, .int .i64 t277, .int .i64 t278, .slice Ao35 t297.length co35] 29 (0, 0)) (sqK BK282.out) hb); have n6_ := Aside0.mk (zd (g := gb287) (o := .cells #[.int .i64 t283, .slice Ao42 t284.length co42] 27 (0, 0)) (sqK BK287.out) hb); have n7_ := Aside0.mk (ze sqB hb); clear HO_276001; clear HO_283003; clear HO_288001; clear BK263; clear BK275; clear BK282; clear BK287; clear HB; have HO_276001 := n0_; have HO_283003 := n1_; have HO_288001 := n2_; have BK263 := n3_; have BK275 := n4_; have BK282 := n5_; have BK287 := n6_; have HB := n7_; clear n0_ n1_ n2_ n3_ n4_ n5_ n6_ n7_; (try clear hb); (try clear hb2); (try clear hk); (try clear hi); have hnb80 := NB263_275.out; have hnc80 := NB275_263.out; have hnb81 := NB263_282.out; have hnc81 := NB282_263.out; have hcz82_0 : w79.cell? ⟨gb263, 0, none⟩ = some (.int .i64 a0_0) := (zb BK263.out 0).trans rfl; have hcz82_1 : w79.cell? ⟨gb263, 1, none⟩ = some (.int .i64 a0_1) := (zb BK263.out 1).trans rfl; have hcz82_2 : w79.cell? ⟨gb263, 2, none⟩ = some (.int .i64 a0_2) := (zb BK263.out 2).trans rfl; have hcz82_3 : w79.cell? ⟨gb263, 3, none⟩ = some (.slice A0_3 l0_3.length c0_3) := (zb BK263.out 3).trans rfl; have hfz82_0 := za BK263.out 0; have hfz82_1 := za BK263.out 1; have hfz82_2 := za BK263.out 2; have hfz82_3 := za BK263.out 3) | ((with_reducible refine zf (f := 6) rfl ?_); refine zu (some 55) rfl rfl Try.func6 (by kernel_rfl) rfl #[.agg #[.int .i64 a0_0, .int .i64 a0_1, .int .i64 a0_2, .slice A0_3 l0_3.length c0_3]] rfl sqM ?_; (with_reducible refine (zM.calls kj16 a0_0 a0_1 a0_2 _ _ l0_3 t302 t303 t304 t305 _ ?side1 ?side2 A66.out).mono ?_); (case side1 => exact sqC (Kd.zI HR0_3.out HB.out)); (case side2 => exact HC0_3.out); rintro e w83 ⟨v306, rfl, ho0, hb⟩; refine ⟨_, rfl, ?_⟩; have n0_ := Aside0.mk (Kd.qz (sqR HO_276001.out) (Kd.qS ho0) hb); have n1_ := Aside0.mk (Kd.qz (sqR HO_283003.out) (Kd.qS ho0) hb); have n2_ := Aside0.mk (Kd.qz (sqR HO_288001.out) (Kd.qS ho0) hb); have n3_ := Aside0.mk (Kd.qq (Kd.ja (Kd.ja (Kd.ja ho0 (Kd.vr (sqR HO_276001.out))) (Kd.vr (sqR HO_283003.out))) (Kd.vr (sqR HO_288001.out))) (zB sqB)); have n4_ := Aside0.mk (zd (g := gb263) (o := .cells #[.int .i64 a0_0, .int .i64 a0_1, .int .i64 a0_2, .slice A0_3 l0_3.length c0_3] 24 (0, 0)) (sqK BK263.out) hb); have n5_ := Aside0.mk (zd (g := gb275) (o := .cells #[.int .i64 t271, .slice Ao28 t272.length co28] 27 (0, 0)) (sqK BK275.out) hb); have n6_ := Aside0.mk (zd (g := gb282) (o := .cells #[.int .i64 t276, .int .i64 t277, .int .i64 t278, .slice Ao35 t297.length co35] 29 (0, 0)) (sqK BK282.out) hb); have n7_ := Aside0.mk (zd (g := gb287) (o := .cells #[.int .i64 t283, .slice Ao42 t284.length co42] 27 (0, 0)) (sqK BK287.out) hb); have n8_ := Aside0.mk (ze sqB hb); clear HO_276001; clear HO_283003; clear HO_288001; clear BK263; clear BK275; clear BK282; clear BK287; clear HB; have HO_276001 := n0_; have HO_283003 := n1_; have HO_288001 := n2_; have HO307 := n3_; have BK263 := n4_; have BK275 := n5_; have BK282 := n6_; have BK287 := n7_; have HB := n8_; clear n0_ n1_ n2_ n3_ n4_ n5_ n6_ n7_ n8_; (try clear hb); (try clear hb2); (try clear hk); (try clear hi); (try clear ho0); obtain ⟨Ao84, co84, eo84⟩ := Kd.z8 HO307.out; subst eo84) | ((with_reducible refine zf (f := 7) rfl ?_); refine zu (some 56) rfl rfl Try.func7 (by kernel_rfl) rfl #[.agg #[.int .i64 t302, .int .i64 t303, .int .i64 t304, .slice Ao84 t305.length co84]] rfl sqM ?_; (with_reducible refine (zH.calls kj16 t302 t303 t304 _ _ t305 t308 t309 _ ?side1 ?side2 A67.out).mono ?_); (case side1 => exact sqC (Kd.zx HO307.out).2.2); (case side2 => exact (Kd.zx HO307.out).2.1); rintro e w85 ⟨v310, rfl, ho0, hb⟩; refine ⟨_, rfl, ?_⟩; have n0_ := Aside0.mk (Kd.qz (sqR HO_276001.out) (Kd.qS ho0) hb); have n1_ := Aside0.mk (Kd.qz (sqR HO_283003.out) (Kd.qS ho0) hb); have n2_ := Aside0.mk (Kd.qz (sqR HO_288001.out) (Kd.qS ho0) hb); have n3_ := Aside0.mk (Kd.qz (sqR HO307.out) (Kd.qS ho0) hb); have n4_ := Aside0.mk (Kd.qq (Kd.ja (Kd.ja (Kd.ja (Kd.ja ho0 (Kd.vr (sqR HO_276001.out))) (Kd.vr (sqR HO_283003.out))) (Kd.vr (sqR HO_288001.out))) (Kd.vr (sqR HO307.out))) (zB sqB)); have n5_ := Aside0.mk (zd (g := gb263) (o := .cells #[.int .i64 a0_0, .int .i64 a0_1, .int .i64 a0_2, .slice A0_3 l0_3.length c0_3] 24 (0, 0)) (sqK BK263.out) hb); have n6_ := Aside0.mk (zd (g := gb275) (o := .cells #[.int .i64 t271, .slice Ao28 t272.length co28] 27 (0, 0)) (sqK BK275.out) hb); have n7_ := Aside0.mk (zd (g := gb282) (o := .cells #[.int .i64 t276, .int .i64 t277, .int .i64 t278, .slice Ao35 t297.length co35] 29 (0, 0)) (sqK BK282.out) hb); have n8_ := Aside0.mk (zd (g := gb287) (o := .cells #[.int .i64 t283, .slice Ao42 t284.length co42] 27 (0, 0)) (sqK BK287.out) hb); have n9_ := Aside0.mk (ze sqB hb); clear HO_276001; clear HO_283003; clear HO_288001; clear HO307; clear BK263; clear BK275; clear BK282; clear BK287; clear HB; have HO_276001 := n0_; have HO_283003 := n1_; have HO_288001 := n2_; have HO307 := n3_; have HO311 := n4_; have BK263 := n5_; have BK275 := n6_; have BK282 := n7_; have BK287 := n8_; have HB := n9_; clear n0_ n1_ n2_ n3_ n4_ n5_ n6_ n7_ n8_ n9_; (try clear hb); (try clear hb2); (try clear hk); (try clear hi); (try clear ho0)) | ((with_reducible refine zq (N := 10) rfl ?_); refine zo ?hg (N := 10) ?hd (cs := #[.int .i64 0, .slice none 0 0]) (t := 27) ?hr ?_; (case hd => rfl); (case hg => rfl); (case hr => exact sqG); intro gb312 hg w86 hbox hb; have n0_ := Aside0.mk (Kd.zE (sqR HO_276001.out) hb); have n1_ := Aside0.mk (Kd.zE (sqR HO_283003.out) hb); have n2_ := Aside0.mk (Kd.zE (sqR HO_288001.out) hb); have n3_ := Aside0.mk (Kd.zE (sqR HO307.out) hb); have n4_ := Aside0.mk (Kd.zE (sqR HO311.out) hb); have n5_ := Aside0.mk (zd (g := gb263) (o := .cells #[.int .i64 a0_0, .int .i64 a0_1, .int .i64 a0_2, .slice A0_3 l0_3.length c0_3] 24 (0, 0)) (sqK BK263.out) hb); have n6_ := Aside0.mk (zd (g := gb275) (o := .cells #[.int .i64 t271, .slice Ao28 t272.length co28] 27 (0, 0)) (sqK BK275.out) hb); have n7_ := Aside0.mk (zd (g := gb282) (o := .cells #[.int .i64 t276, .int .i64 t277, .int .i64 t278, .slice Ao35 t297.length co35] 29 (0, 0)) (sqK BK282.out) hb); have n8_ := Aside0.mk (zd (g := gb287) (o := .cells #[.int .i64 t283, .slice Ao42 t284.length co42] 27 (0, 0)) (sqK BK287.out) hb); have n9_ := Aside0.mk (ze sqB hb); have n10_ := Aside0.mk (hbox); have n11_ := Aside0.mk ((sqS hg : w.heap.size ≤ gb312)); have n12_ := Aside0.mk ((sqS hg : w.heap.size ≤ gb312)); have n13_ := Aside0.mk ((by rw [hg]; exact Nat.ne_of_lt (zz (g := gb263) (o := .cells #[.int .i64 a0_0, .int .i64 a0_1, .int .i64 a0_2, .slice A0_3 l0_3.length c0_3] 24 (0, 0)) (sqK BK263.out)) : gb263 ≠ gb312)); have n14_ := Aside0.mk ((by rw [hg]; exact Nat.ne_of_gt (zz (g := gb263) (o := .cells #[.int .i64 a0_0, .int .i64 a0_1, .int .i64 a0_2, .slice A0_3 l0_3.length c0_3] 24 (0, 0)) (sqK BK263.out)) : gb312 ≠ gb263)); have n15_ := Aside0.mk ((by rw [hg]; exact Nat.ne_of_lt (zz (g := gb275) (o := .cells #[.int .i64 t271, .slice Ao28 t272.length co28] 27 (0, 0)) (sqK BK275.out)) : gb275 ≠ gb312)); have n16_ := Aside0.mk ((by rw [hg]; exact Nat.ne_of_gt (zz (g := gb275) (o := .cells #[.int .i64 t271, .slice Ao28 t272.length co28] 27 (0, 0)) (sqK BK275.out)) : gb312 ≠ gb275)); have n17_ := Aside0.mk ((by rw [hg]; exact Nat.ne_of_lt (zz (g := gb282) (o := .cells #[.int .i64 t276, .int .i64 t277, .int .i64 t278, .slice Ao35 t297.length co35] 29 (0, 0)) (sqK BK282.out)) : gb282 ≠ gb312)); have n18_ := Aside0.mk ((by rw [hg]; exact Nat.ne_of_gt (zz (g := gb282) (o := .cells #[.int .i64 t276, .int .i64 t277, .int .i64 t278, .slice Ao35 t297.length co35] 29 (0, 0)) (sqK BK282.out)) : gb312 ≠ gb282)); have n19_ := Aside0.mk ((by rw [hg]; exact Nat.ne_of_lt (zz (g := gb287) (o := .cells #[.int .i64 t283, .slice Ao42 t284.length co42] 27 (0, 0)) (sqK BK287.out)) : gb287 ≠ gb312)); have n20_ := Aside0.mk ((by rw [hg]; exact Nat.ne_of_gt (zz (g := gb287) (o := .cells #[.int .i64 t283, .slice Ao42 t284.length co42] 27 (0, 0)) (sqK BK287.out)) : gb312 ≠ gb287)); clear HO_276001; clear HO_283003; clear HO_288001; clear HO307; clear HO311; clear BK263; clear BK275; clear BK282; clear BK287; clear HB; have HO_276001 := n0_; have HO_283003 := n1_; have HO_288001 := n2_; have HO307 := n3_; have HO311 := n4_; have BK263 := n5_; have BK275 := n6_; have BK282 := n7_; have BK287 := n8_; have HB := n9_; have BK312 := n10_; have GW312 := n11_; have GE312 := n12_; have NB263_312 := n13_; have NB312_263 := n14_; have NB275_312 := n15_; have NB312_275 := n16_; have NB282_312 := n17_; have NB312_282 := n18_; have NB287_312 := n19_; have NB312_287 := n20_; clear n0_ n1_ n2_ n3_ n4_ n5_ n6_ n7_ n8_ n9_ n10_ n11_ n12_ n13_ n14_ n15_ n16_ n17_ n18_ n19_ n20_; clear hb hbox hg; have hnb87 := NB312_263.out; have hnc87 := NB263_312.out; have hnb88 := NB312_275.out; have hnc88 := NB275_312.out; have hnb89 := NB312_282.out; have hnc89 := NB282_312.out; have hnb90 := NB312_287.out; have hnc90 := NB287_312.out; have hcz91_0 : w86.cell? ⟨gb312, 0, none⟩ = some (.int .i64 0) := (zb BK312.out 0).trans rfl; have hcz91_1 : w86.cell? ⟨gb312, 1, none⟩ = some (.slice none 0 0) := (zb BK312.out 1).trans rfl; have hfz91_0 := za BK312.out 0; have hfz91_1 := za BK312.out 1; obtain ⟨Ao92, co92, eo92⟩ := Kd.z8 HO311.out; subst eo92; have hnb93 := NB275_282.out; have hnc93 := NB282_275.out; have hcz94_0 : w86.cell? ⟨gb275, 0, none⟩ = some (.int .i64 t271) := (zb BK275.out 0).trans rfl; have hcz94_1 : w86.cell? ⟨gb275, 1, none⟩ = some (.slice Ao28 t272.length co28) := (zb BK275.out 1).trans rfl; have hfz94_0 := za BK275.out 0; have hfz94_1 := za BK275.out 1) | ((with_reducible refine zf (f := 8) rfl ?_); refine zu (some 59) rfl rfl Try.func8 (by kernel_rfl) rfl #[.agg #[.int .i64 t308, .slice Ao92 t309.length co92], .agg #[.int .i64 t271, .slice Ao28 t272.length co28]] rfl sqM ?_; (with_reducible refine (zw.calls kj16 t308 _ _ t309 t271 _ _ t272 true _ ?side1 ?side2 ?side3 ?side4 A68.out).mono ?_); (case side1 => refine (Kd.zx (e := 3) (base := w.heap.size) (ok := fun k_ => ((((True ∧ some k_ ≠ (.slice Ao28 t272.length co28 : Value).ownBlock) ∧ some k_ ≠ (.slice Ao35 t297.length co35 : Value).ownBlock) ∧ some k_ ≠ (.slice Ao42 t284.length co42 : Value).ownBlock) ∧ some k_ ≠ (.slice Ao84 t305.length co84 : Value).ownBlock)) (n := t309.length) (c := co92) ?_).2.2; exact (by refine sqR ?_; exact (Kd.zy (Kd.zF (p := ⟨gb312, 1, none⟩) (Kd.zF (p := ⟨gb312, 0, none⟩) (Kd.zV HO311.out BK312.out (by decide)) (fun _ hk => hk.2) (.int .i64 t308)) (fun _ hk => hk.2) (.slice Ao92 t309.length co92)) (fun _ h_ => h_.1)))); (case side2 => exact (Kd.zx HO311.out).2.1); (case side3 => refine (Kd.zx (e := 3) (base := w.heap.size) (ok := fun k_ => (((some k_ ≠ (.slice Ao35 t297.length co35 : Value).ownBlock ∧ some k_ ≠ (.slice Ao42 t284.length co42 : Value).ownBlock) ∧ some k_ ≠ (.slice Ao84 t305.length co84 : Value).ownBlock) ∧ some k_ ≠ (.slice Ao92 t309.length co92 : Value).ownBlock)) (n := t272.length) (c := co28) ?_).2.2; exact (by refine sqR ?_; exact (Kd.zy (Kd.zF (p := ⟨gb312, 1, none⟩) (Kd.zF (p := ⟨gb312, 0, none⟩) (Kd.zV HO_276001.out BK312.out (by decide)) (fun _ hk => hk.2) (.int .i64 t308)) (fun _ hk => hk.2) (.slice Ao92 t309.length co92)) (fun _ h_ => h_.1)))); (case side4 => exact (Kd.zx HO_276001.out).2.1); rintro e w95 ⟨rfl, hb⟩; refine ⟨_, rfl, ?_⟩; have n0_ := Aside0.mk (Kd.zE (by refine sqR ?_; exact (Kd.zy (Kd.zF (p := ⟨gb312, 1, none⟩) (Kd.zF (p := ⟨gb312, 0, none⟩) (Kd.zV HO_276001.out BK312.out (by decide)) (fun _ hk => hk.2) (.int .i64 t308)) (fun _ hk => hk.2) (.slice Ao92 t309.length co92)) (fun _ h_ => h_.1))) hb); have n1_ := Aside0.mk (Kd.zE (by refine sqR ?_; exact (Kd.zy (Kd.zF (p := ⟨gb312, 1, none⟩) (Kd.zF (p := ⟨gb312, 0, none⟩) (Kd.zV HO_283003.out BK312.out (by decide)) (fun _ hk => hk.2) (.int .i64 t308)) (fun _ hk => hk.2) (.slice Ao92 t309.length co92)) (fun _ h_ => h_.1))) hb); have n2_ := Aside0.mk (Kd.zE (by refine sqR ?_; exact (Kd.zy (Kd.zF (p := ⟨gb312, 1, none⟩) (Kd.zF (p := ⟨gb312, 0, none⟩) (Kd.zV HO_288001.out BK312.out (by decide)) (fun _ hk => hk.2) (.int .i64 t308)) (fun _ hk => hk.2) (.slice Ao92 t309.length co92)) (fun _ h_ => h_.1))) hb); have n3_ := Aside0.mk (Kd.zE (by refine sqR ?_; exact (Kd.zy (Kd.zF (p := ⟨gb312, 1, none⟩) (Kd.zF (p := ⟨gb312, 0, none⟩) (Kd.zV HO307.out BK312.out (by decide)) (fun _ hk => hk.2) (.int .i64 t308)) (fun _ hk => hk.2) (.slice Ao92 t309.length co92)) (fun _ h_ => h_.1))) hb); have n4_ := Aside0.mk (Kd.zE (by refine sqR ?_; exact (Kd.zy (Kd.zF (p := ⟨gb312, 1, none⟩) (Kd.zF (p := ⟨gb312, 0, none⟩) (Kd.zV HO311.out BK312.out (by decide)) (fun _ hk => hk.2) (.int .i64 t308)) (fun _ hk => hk.2) (.slice Ao92 t309.length co92)) (fun _ h_ => h_.1))) hb); have n5_ := Aside0.mk (zd (g := gb263) (o := .cells #[.int .i64 a0_0, .int .i64 a0_1, .int .i64 a0_2, .slice A0_3 l0_3.length c0_3] 24 (0, 0)) (by refine sqK ?_; refine zJ ?_ NB263_312.out _; refine sqK ?_; refine zJ ?_ NB263_312.out _; refine sqK ?_; exact BK263.out) hb); have n6_ := Aside0.mk (zd (g := gb275) (o := .cells #[.int .i64 t271, .slice Ao28 t272.length co28] 27 (0, 0)) (by refine sqK ?_; refine zJ ?_ NB275_312.out _; refine sqK ?_; refine zJ ?_ NB275_312.out _; refine sqK ?_; exact BK275.out) hb); have n7_ := Aside0.mk (zd (g := gb282) (o := .cells #[.int .i64 t276, .int .i64 t277, .int .i64 t278, .slice Ao35 t297.length co35] 29 (0, 0)) (by refine sqK ?_; refine zJ ?_ NB282_312.out _; refine sqK ?_; refine zJ ?_ NB282_312.out _; refine sqK ?_; exact BK282.out) hb); have n8_ := Aside0.mk (zd (g := gb287) (o := .cells #[.int .i64 t283, .slice Ao42 t284.length co42] 27 (0, 0)) (by refine sqK ?_; refine zJ ?_ NB287_312.out _; refine sqK ?_; refine zJ ?_ NB287_312.out _; refine sqK ?_; exact BK287.out) hb); have n9_ := Aside0.mk (zd (g := gb312) (o := .cells #[.int .i64 t308, .slice Ao92 t309.length co92] 27 (0, 0)) (by refine sqK ?_; refine zL (cs := #[.int .i64 t308, .slice none 0 0]) ?_ 1 _ rfl; refine sqK ?_; refine zL (cs := #[.int .i64 0, .slice none 0 0]) ?_ 0 _ rfl; refine sqK ?_; exact BK312.out) hb); have n10_ := Aside0.mk (ze sqB hb); clear HO_276001; clear HO_283003; clear HO_288001; clear HO307; clear HO311; clear BK263; clear BK275; clear BK282; clear BK287; clear BK312; clear HB; have HO_276001 := n0_; have HO_283003 := n1_; have HO_288001 := n2_; have HO307 := n3_; have HO311 := n4_; have BK263 := n5_; have BK275 := n6_; have BK282 := n7_; have BK287 := n8_; have BK312 := n9_; have HB := n10_; clear n0_ n1_ n2_ n3_ n4_ n5_ n6_ n7_ n8_ n9_ n10_; (try clear hb); (try clear hb2); (try clear hk); (try clear hi); have hcz96_0 : w95.cell? ⟨gb287, 0, none⟩ = some (.int .i64 t283) := (zb BK287.out 0).trans rfl; have hcz96_1 : w95.cell? ⟨gb287, 1, none⟩ = some (.slice Ao42 t284.length co42) := (zb BK287.out 1).trans rfl; have hfz96_0 := za BK287.out 0; have hfz96_1 := za BK287.out 1) | ((with_reducible refine zf (f := 12) rfl ?_); refine zu (some 63) rfl rfl Try.func12 (by kernel_rfl) rfl #[.agg #[.int .i64 t283, .slice Ao42 t300.length co42], .int .i64 1] rfl (by (try simp only [List.map_toArray, List.map_cons, List.map_nil]); first | done | (rw [show t300.length = t284.length from (Kd.zx HO_288001.out).1.symm] <;> rfl) | rfl | (simp only [List.length_drop, List.length_take]; rfl)) ?_; (with_reducible refine (zU.calls kj16 t283 _ _ t300 1 t314 _ ?side1 ?side2 A70.out).mono ?_); (case side1 => exact sqC (Kd.zx HO_288001.out).2.2); (case side2 => rw [show t300.length = t284.length from (Kd.zx HO_288001.out).1.symm]; exact (Kd.zx HO_288001.out).2.1); rintro e w97 ⟨rfl, hb⟩; refine ⟨_, rfl, ?_⟩; have n0_ := Aside0.mk (Kd.zE (sqR HO_276001.out) hb); have n1_ := Aside0.mk (Kd.zE (sqR HO_283003.out) hb); have n2_ := Aside0.mk (Kd.zE (sqR HO_288001.out) hb); have n3_ := Aside0.mk (Kd.zE (sqR HO307.out) hb); have n4_ := Aside0.mk (Kd.zE (sqR HO311.out) hb); have n5_ := Aside0.mk (zd (g := gb263) (o := .cells #[.int .i64 a0_0, .int .i64 a0_1, .int .i64 a0_2, .slice A0_3 l0_3.length c0_3] 24 (0, 0)) (sqK BK263.out) hb); have n6_ := Aside0.mk (zd (g := gb275) (o := .cells #[.int .i64 t271, .slice Ao28 t272.length co28] 27 (0, 0)) (sqK BK275.out) hb); have n7_ := Aside0.mk (zd (g := gb282) (o := .cells #[.int .i64 t276, .int .i64 t277, .int .i64 t278, .slice Ao35 t297.length co35] 29 (0, 0)) (sqK BK282.out) hb); have n8_ := Aside0.mk (zd (g := gb287) (o := .cells #[.int .i64 t283, .slice Ao42 t284.length co42] 27 (0, 0)) (sqK BK287.out) hb); have n9_ := Aside0.mk (zd (g := gb312) (o := .cells #[.int .i64 t308, .slice Ao92 t309.length co92] 27 (0, 0)) (sqK BK312.out) hb); have n10_ := Aside0.mk (ze sqB hb); clear HO_276001; clear HO_283003; clear HO_288001; clear HO307; clear HO311; clear BK263; clear BK275; clear BK282; clear BK287; clear BK312; clear HB; have HO_276001 := n0_; have HO_283003 := n1_; have HO_288001 := n2_; have HO307 := n3_; have HO311 := n4_; have BK263 := n5_; have BK275 := n6_; have BK282 := n7_; have BK287 := n8_; have BK312 := n9_; have HB := n10_; clear n0_ n1_ n2_ n3_ n4_ n5_ n6_ n7_ n8_ n9_ n10_; (try clear hb); (try clear hb2); (try clear hk); (try clear hi)))
            go_ret
            exact ⟨sqE, sqB⟩
           ·rw [if_neg c72] at H
            exact absurd H (by simp)
         ·replace c69 := Bool.eq_false_iff.mpr c69
          subst c69
          have H1 : (none) = some r := by rw [if_neg (show ¬ (false = true) by decide)] at H; exact H
          clear H
          have H := H1
          clear H1
          exact absurd H (by simp)
        ·rw [if_neg c65] at H
         exact absurd H (by simp)
   ·replace c15 := Bool.eq_false_iff.mpr c15
    subst c15
    have H1 : (none) = some r := by rw [if_neg (show ¬ (false = true) by decide)] at H; exact H
    clear H
    have H := H1
    clear H1
    exact absurd H (by simp)
  ·replace c12 := Bool.eq_false_iff.mpr c12
   subst c12
   have H1 : (none) = some r := by rw [if_neg (show ¬ (false = true) by decide)] at H; exact H
   clear H
   have H := H1
   clear H1
   exact absurd H (by simp)

end Go.Proofs.Ytjlbfbpjcmjdfaa.F
end
section
namespace Go.Proofs.Ytjlbfbpjcmjdfaa.Bits
open Go.Proofs.Ytjlbfbpjcmjdfaa.Mt (sdiff qt)
open Go.RowKit Go.Proofs.YtjlbfbpjcmjdfaaW.PrintWords Go.Proofs.YtjlbfbpjcmjdfaaW.PrintLast Go.Proofs.YtjlbfbpjcmjdfaaW.PrintMore

theorem qQ {n : Int} (h0 : -9223372036854775808 ≤ n) (h1 : n < 9223372036854775808) : wrap64 n = n := by unfold wrap64; omega
theorem ZZ {n : Int} (h0 : -9223372036854775808 ≤ n) (h1 : n < 9223372036854775808) : IntKind.i64.wrap n = n := by rw [IntKind.wrap_i64]; omega
theorem Z7 {n : Int} (h0 : 0 ≤ n) (h1 : n < 18446744073709551616) : IntKind.u64.wrap n = n := by
  simp [IntKind.wrap, IntKind.bits, IntKind.signed]; omega
theorem vY (a : Nat) (ha : a < 2 ^ 63) : (BitVec.ofInt 64 (a : Int)).toNat = a := by
  simp; omega
theorem VA (a b : Nat) (ha : a < 2 ^ 63) (hb : b < 2 ^ 63) : Go.bits .and .i64 (a : Int) (b : Int) = ((a &&& b : Nat) : Int) := by
  have hab : a &&& b < 2 ^ 63 := Nat.and_lt_two_pow _ hb
  show IntKind.i64.wrap (((BitVec.ofInt 64 (a : Int) &&& BitVec.ofInt 64 (b : Int)).toNat : Nat) : Int) = _
  rw [BitVec.toNat_and, vY a ha, vY b hb]
  exact ZZ (by omega) (by omega)
theorem zbu (a b : Nat) (ha : a < 2 ^ 63) (hb : b < 2 ^ 63) : Go.bits .or .i64 (a : Int) (b : Int) = ((a ||| b : Nat) : Int) := by
  have hab : a ||| b < 2 ^ 63 := Nat.or_lt_two_pow ha hb
  show IntKind.i64.wrap (((BitVec.ofInt 64 (a : Int) ||| BitVec.ofInt 64 (b : Int)).toNat : Nat) : Int) = _
  rw [BitVec.toNat_or, vY a ha, vY b hb]
  exact ZZ (by omega) (by omega)
theorem VR {a b n : Nat} (ha : a < 2 ^ n) : sdiff a b < 2 ^ n := Nat.xor_lt_two_pow ha (Nat.lt_of_le_of_lt Nat.and_le_left ha)
theorem ym (a b : Nat) (ha : a < 2 ^ 63) (hb : b < 2 ^ 63) : Go.bits .andNot .i64 (a : Int) (b : Int) = ((sdiff a b : Nat) : Int) := by
  have hab : sdiff a b < 2 ^ 63 := VR ha
  show IntKind.i64.wrap (((BitVec.ofInt 64 (a : Int) &&& ~~~ BitVec.ofInt 64 (b : Int)).toNat : Nat) : Int) = _
  have : (BitVec.ofInt 64 (a : Int) &&& ~~~ BitVec.ofInt 64 (b : Int)).toNat = sdiff a b := by
    apply Nat.eq_of_testBit_eq
    intro i
    rw [qt]
    rw [BitVec.toNat_and, Nat.testBit_and, vY a ha]
    by_cases hi : i < 64
    · rw [BitVec.testBit_toNat, BitVec.getLsbD_not, ← BitVec.testBit_toNat, vY b hb]; simp [hi]
    · have : a.testBit i = false := Nat.testBit_lt_two_pow (Nat.lt_of_lt_of_le ha (Nat.pow_le_pow_right (by decide) (by omega)))
      simp [this]
  rw [this]
  exact ZZ (by omega) (by omega)
theorem Ze (e : Nat) (he : e < 63) : shl .i64 1 (e : Int) = ((2 ^ e : Nat) : Int) := by
  have h : 2 ^ e < 2 ^ 63 := Nat.pow_lt_pow_right (by decide) he
  unfold shl
  rw [Nat.min_eq_left (by simp [IntKind.bits]; omega), Int.one_mul, Int.toNat_natCast]
  rw [show (2 : Int) ^ e = ((2 ^ e : Nat) : Int) by simp]
  generalize 2 ^ e = x at h ⊢
  exact ZZ (by omega) (by omega)
theorem zbL (a e : Nat) (he : e ≤ 64) : shr .i64 (a : Int) (e : Int) = ((a >>> e : Nat) : Int) := by
  unfold shr
  rw [Nat.min_eq_left (by simp [IntKind.bits]; omega), Int.toNat_natCast, Nat.shiftRight_eq_div_pow]
  simp
theorem YP (a e : Nat) (ha : a < 2 ^ 63) (he : e ≤ 64) : (Go.bits .and .i64 (shr .i64 (a : Int) (e : Int)) 1 == 1) = a.testBit e := by
  have h1 : a >>> e < 2 ^ 63 := Nat.lt_of_le_of_lt (by rw [Nat.shiftRight_eq_div_pow]; exact Nat.div_le_self _ _) ha
  rw [zbL a e he, show (1 : Int) = ((1 : Nat) : Int) from rfl, VA _ _ h1 (by decide)]
  simp only [Nat.testBit, Nat.and_comm 1]
  rcases Nat.mod_two_eq_zero_or_one (a >>> e) with h | h <;> simp [Nat.and_one_is_mod, h] <;> rfl

end Go.Proofs.Ytjlbfbpjcmjdfaa.Bits
end
section
namespace Go.Proofs.Ytjlbfbpjcmjdfaa.L
open Go.RowKit Go.Proofs.YtjlbfbpjcmjdfaaW.PrintWords Go.Proofs.YtjlbfbpjcmjdfaaW.PrintLast Go.Proofs.YtjlbfbpjcmjdfaaW.PrintMore
open Go.Proofs.Ytjlbfbpjcmjdfaa.Bits

theorem Ev.succ {α : Type} {g : Nat → Option α} {r : α} (h : Ev (fun k => g (k + 1)) r) : Ev g r := Ev.step (fun _ => rfl) h
theorem Ev.some {α : Type} {r s : α} (h : r = s) : Ev (fun _ => Option.some r) s := h ▸ Ev.now r
theorem zS {i : Nat} (h : i < 9223372036854775807) : wrap64 ((i : Int) + 1) = ((i + 1 : Nat) : Int) := qQ (by omega) (by omega)

/-- A loop that asks of all places, and says no at the first that fails. -/
theorem VB (L : Nat → Int → Option Bool) (n : Nat) (p : Nat → Bool) (hend : ∀ k, L (k + 1) (n : Int) = some true)
    (hstep : ∀ i, i < n → ∀ k, L (k + 1) (i : Int) = if p i = true then L k ((i + 1 : Nat) : Int) else some false) :
    ∀ d i, i + d = n → Ev (fun k => L k (i : Int)) ((List.range' i d).all p)
  | 0, i, hd => by
    obtain rfl : i = n := by omega
    refine Ev.succ ?_
    simp only [hend]; exact Ev.now _
  | d + 1, i, hd => by
    refine Ev.succ ?_
    rw [List.range'_succ, List.all_cons]
    simp only [hstep i (by omega)]
    cases hp : p i
    · simp only [Bool.false_eq_true, if_false, Bool.false_and]; exact Ev.now _
    · simp only [if_true, Bool.true_and]; exact VB L n p hend hstep d (i + 1) (by omega)
theorem y9 (L : Nat → Int → Option Bool) (n : Nat) (p : Nat → Bool) (hend : ∀ k, L (k + 1) (n : Int) = some true)
    (hstep : ∀ i, i < n → ∀ k, L (k + 1) (i : Int) = if p i = true then L k ((i + 1 : Nat) : Int) else some false) :
    Ev (fun k => L k 0) ((List.range n).all p) := by
  rw [List.range_eq_range']; exact VB L n p hend hstep n 0 (by omega)
/-- A loop that gathers: at each place the state takes a step; an invariant goes along. -/
theorem Qg {σ ρ : Type} (L : Nat → σ → Int → Option ρ) (n : Nat) (step : σ → Nat → σ) (inv : Nat → σ → Prop) (fin : σ → ρ)
    (hend : ∀ s, inv n s → Ev (fun k => L (k + 1) s (n : Int)) (fin s))
    (hstep : ∀ i s, i < n → inv i s → inv (i + 1) (step s i) ∧ ∀ r, Ev (fun k => L k (step s i) ((i + 1 : Nat) : Int)) r → Ev (fun k => L (k + 1) s (i : Int)) r) :
    ∀ d i s, i + d = n → inv i s → Ev (fun k => L k s (i : Int)) (fin ((List.range' i d).foldl step s))
  | 0, i, s, hd, hi => by
    obtain rfl : i = n := by omega
    exact Ev.succ (hend s hi)
  | d + 1, i, s, hd, hi => by
    refine Ev.succ ?_
    obtain ⟨h1, h2⟩ := hstep i s (by omega) hi
    exact h2 _ (Qg L n step inv fin hend hstep d (i + 1) (step s i) (by omega) h1)
theorem yK {σ ρ : Type} (L : Nat → σ → Int → Option ρ) (n : Nat) (step : σ → Nat → σ) (inv : Nat → σ → Prop) (fin : σ → ρ)
    (hend : ∀ s, inv n s → Ev (fun k => L (k + 1) s (n : Int)) (fin s))
    (hstep : ∀ i s, i < n → inv i s → inv (i + 1) (step s i) ∧ ∀ r, Ev (fun k => L k (step s i) ((i + 1 : Nat) : Int)) r → Ev (fun k => L (k + 1) s (i : Int)) r) (s : σ) (h : inv 0 s) :
    Ev (fun k => L k s 0) (fin ((List.range n).foldl step s)) := by
  rw [List.range_eq_range']; exact Qg L n step inv fin hend hstep n 0 s (by omega) h

/-- A loop that gathers, and what stands behind it. -/
theorem jn {σ ρ : Type} (L : Nat → σ → Int → Option ρ) (n : Nat) (step : σ → Nat → σ) (inv : Nat → σ → Prop)
    (hstep : ∀ i s, i < n → inv i s → inv (i + 1) (step s i) ∧ ∀ r, Ev (fun k => L k (step s i) ((i + 1 : Nat) : Int)) r → Ev (fun k => L (k + 1) s (i : Int)) r) (s : σ) (h : inv 0 s) :
    inv n ((List.range n).foldl step s) ∧ ∀ r, Ev (fun k => L k ((List.range n).foldl step s) (n : Int)) r → Ev (fun k => L k s 0) r := by
  have key : ∀ d i s, i + d = n → inv i s → inv n ((List.range' i d).foldl step s) ∧ ∀ r, Ev (fun k => L k ((List.range' i d).foldl step s) (n : Int)) r → Ev (fun k => L k s (i : Int)) r := by
    intro d
    induction d with
    | zero => intro i s hd hi; obtain rfl : i = n := by omega
              exact ⟨hi, fun r h => h⟩
    | succ d ih =>
      intro i s hd hi
      obtain ⟨h1, h2⟩ := hstep i s (by omega) hi
      obtain ⟨h3, h4⟩ := ih (i + 1) (step s i) (by omega) h1
      rw [List.range'_succ, List.foldl_cons]
      exact ⟨h3, fun r h => Ev.succ (h2 r (h4 r h))⟩
  rw [List.range_eq_range']
  exact key n 0 s (by omega) h
/-- A loop from its end back: what a place makes of the answer of what follows. -/
theorem yE {ρ : Type} (L : Nat → Int → Option ρ) (n : Nat) (f : Nat → ρ → ρ) (last : ρ) (hend : Ev (fun k => L (k + 1) (n : Int)) last)
    (hstep : ∀ i, i < n → ∀ r, Ev (fun k => L k ((i + 1 : Nat) : Int)) r → Ev (fun k => L (k + 1) (i : Int)) (f i r)) : Ev (fun k => L k 0) ((List.range n).foldr f last) := by
  have key : ∀ d i, i + d = n → Ev (fun k => L k (i : Int)) ((List.range' i d).foldr f last) := by
    intro d
    induction d with
    | zero => intro i hd; obtain rfl : i = n := by omega
              exact Ev.succ hend
    | succ d ih =>
      intro i hd
      rw [List.range'_succ, List.foldr_cons]
      exact Ev.succ (hstep i (by omega) _ (ih (i + 1) (by omega)))
  rw [List.range_eq_range']
  exact key n 0 (by omega)
theorem JO {α : Type} (p : α → Bool) (r : Bool) : ∀ l : List α, l.foldr (fun i r => p i && r) r = (l.all p && r)
  | [] => by simp
  | a :: l => by rw [List.foldr_cons, List.all_cons, JO p r l, Bool.and_assoc]
theorem qY (l : List Int) (j : Nat) : rd l (j : Int) = l.getD j 0 := by simp [rd]
theorem Zn {α : Type} (l : List α) (d : α) (p : α → Bool) : (List.range l.length).all (fun i => p (l.getD i d)) = l.all p := by
  rw [Bool.eq_iff_iff, List.all_eq_true, List.all_eq_true]
  constructor
  · intro h x hx
    obtain ⟨i, hi, rfl⟩ := List.getElem_of_mem hx
    have := h i (by simpa using hi)
    simpa [List.getElem?_eq_getElem hi] using this
  · intro h i hi
    have hi : i < l.length := by simpa using hi
    have := h l[i] (List.getElem_mem hi)
    simpa [List.getElem?_eq_getElem hi] using this
end Go.Proofs.Ytjlbfbpjcmjdfaa.L
end
section
namespace Go.Proofs.Ytjlbfbpjcmjdfaa.L
open Go.RowKit Go.Proofs.Ytjlbfbpjcmjdfaa.F Go.Proofs.YtjlbfbpjcmjdfaaW.PrintWords Go.Proofs.YtjlbfbpjcmjdfaaW.PrintLast Go.Proofs.YtjlbfbpjcmjdfaaW.PrintMore
open Go.Proofs.Ytjlbfbpjcmjdfaa.Bits

theorem Vi (l l' : List Int) (h : l.length = l'.length) : (List.range l.length).all (fun i => decide (l.getD i 0 = l'.getD i 0)) = decide (l = l') := by
  rw [Bool.eq_iff_iff, List.all_eq_true, decide_eq_true_iff]
  constructor
  · intro hh
    apply List.ext_getElem h
    intro i h1 h2
    have := hh i (by simpa using h1)
    simpa [List.getElem?_eq_getElem h1, List.getElem?_eq_getElem h2] using this
  · rintro rfl i _
    simp

theorem zbe (l l' : List Int) (h : l.length ≤ 17592186044416) : Ev (fun k => qe.f k l l') (decide (l = l')) := by
  unfold qe.f
  by_cases e : l.length = l'.length
  · simp only [show ((l.length : Int) = (l'.length : Int)) by omega, if_true]
    rw [← Vi l l' e]
    refine y9 _ _ _ (fun k => by simp only [qe.l0, show ¬ ((l.length : Int) < (l.length : Int)) by omega, if_false]) ?_
    intro i hi k
    simp only [qe.l0, show ((i : Int) < (l.length : Int)) by omega, show ((i : Int) < (l'.length : Int)) by omega, show (0 : Int) ≤ (i : Int) by omega, if_true, qY, zS (show i < 9223372036854775807 by omega), decide_eq_true_eq]
  · simp only [show ¬ ((l.length : Int) = (l'.length : Int)) by omega, if_false]
    rw [show decide (l = l') = false by simp; rintro rfl; exact e rfl]
    exact Ev.now _

theorem zco (l : List Int) (n : Int) (h : l.length ≤ 17592186044416) (h0 : 0 ≤ n) (h1 : n ≤ 1048576) : jw.f l n = some (if n < l.length then -1 else n - l.length) := by
  unfold jw.f
  have hw : wrap64 (n - (l.length : Int)) = n - (l.length : Int) := qQ (by omega) (by omega)
  rw [hw]
  split
  · rw [if_pos (by omega)]
  · rw [if_neg (by omega)]
theorem JH (l : List Int) : ∀ n, n ≤ l.length → (List.range n).foldl (fun a i => a.set i (l.getD i 0)) (List.replicate l.length 0) = l.take n ++ List.replicate (l.length - n) 0
  | 0, _ => by simp
  | n + 1, h => by
    rw [List.range_succ, List.foldl_append, JH l n (by omega)]
    simp only [List.foldl_cons, List.foldl_nil]
    obtain ⟨m, hm⟩ : ∃ m, l.length - n = m + 1 := ⟨l.length - n - 1, by omega⟩
    rw [hm, List.replicate_succ, List.set_append_right _ _ (by simp; omega)]
    have : n - (List.take n l).length = 0 := by simp; omega
    rw [this, List.set_cons_zero, show l.length - (n + 1) = m by omega]
    have hg : l.getD n 0 = l[n] := by simp [List.getElem?_eq_getElem (show n < l.length by omega)]
    rw [List.take_succ_eq_append_getElem (by omega), List.append_assoc, List.singleton_append, hg]

theorem zcv (l : List Int) (h : l.length ≤ 17592186044416) : Ev (fun k => qn.f k l) l := by
  unfold qn.f
  simp only [show (0 : Int) ≤ (l.length : Int) by omega, Int.toNat_natCast, show l.length ≤ 35184372088832 by omega, if_true]
  have key := yK (fun k s i => qn.l0 k l s i) l.length (fun a i => a.set i (l.getD i 0)) (fun _ s => s.length = l.length) id
    (fun s hs => by
      simp only [qn.l0, show ¬ ((l.length : Int) < (l.length : Int)) by omega, if_false]
      exact Ev.now _)
    (fun i s hi hs => ⟨by simp [hs], fun r hr => by
      simp only [qn.l0, show ((i : Int) < (l.length : Int)) by omega, show ((i : Int) < (s.length : Int)) by omega, show (0 : Int) ≤ (i : Int) by omega, if_true, Int.toNat_natCast, qY, zS (show i < 9223372036854775807 by omega)]
      exact hr⟩) (List.replicate l.length 0) (by simp)
  rw [JH l l.length (Nat.le_refl _)] at key
  simpa using key
end Go.Proofs.Ytjlbfbpjcmjdfaa.L
end
section
namespace Go.Proofs.Ytjlbfbpjcmjdfaa.L
open Go.RowKit Go.Proofs.YtjlbfbpjcmjdfaaW.PrintWords Go.Proofs.YtjlbfbpjcmjdfaaW.PrintLast Go.Proofs.YtjlbfbpjcmjdfaaW.PrintMore
open Go.Proofs.Ytjlbfbpjcmjdfaa.Bits
set_option linter.unusedSimpArgs false
set_option linter.unusedVariables false
abbrev Tab := Nat → Nat → Int
def qj (M : Tab) (R C : Nat) : List Int := (List.range (R * C)).map fun k => M (k / C) (k % C)
def q4 (M : Tab) (C i : Nat) : List Int := (List.range C).map (M i)
def qh (M : Tab) (R C : Nat) : List (List Int) := (List.range R).map (q4 M C)
def qD (l : List Int) (C : Nat) : Tab := fun i j => l.getD (i * C + j) 0
def upd (M : Tab) (i j : Nat) (v : Int) : Tab := fun a b => if a = i ∧ b = j then v else M a b
theorem Z9 {i j C : Nat} (hj : j < C) : (i * C + j) / C = i := by
  rw [Nat.mul_comm, Nat.mul_add_div (by omega), Nat.div_eq_of_lt hj, Nat.add_zero]
theorem ZI {i j C : Nat} (hj : j < C) : (i * C + j) % C = j := by
  rw [Nat.mul_comm, Nat.mul_add_mod, Nat.mod_eq_of_lt hj]
theorem yo {R C i j : Nat} (hi : i < R) (hj : j < C) : i * C + j < R * C := by
  have := Nat.mul_le_mul_right C (show i + 1 ≤ R by omega)
  rw [Nat.succ_mul] at this; omega
theorem qK (M : Tab) (R C : Nat) : (qj M R C).length = R * C := by simp [qj]
theorem ji (M : Tab) (C i : Nat) : (q4 M C i).length = C := by simp [q4]
theorem qv (M : Tab) (R C : Nat) : (qh M R C).length = R := by simp [qh]
theorem jK (M : Tab) {R C i j : Nat} (hi : i < R) (hj : j < C) : (qj M R C).getD (i * C + j) 0 = M i j := by
  have h := yo hi hj
  simp [qj, List.getD_eq_getElem?_getD, h, Z9 hj, ZI hj]
theorem ye (M : Tab) {C i j : Nat} (hj : j < C) : (q4 M C i).getD j 0 = M i j := by
  simp [q4, List.getD_eq_getElem?_getD, hj]
theorem yV (M : Tab) {R C i : Nat} (hi : i < R) : (qh M R C).getD i [] = q4 M C i := by
  simp [qh, List.getD_eq_getElem?_getD, hi]
theorem JP {R C k : Nat} (h : k < R * C) : 0 < C := by
  rcases Nat.eq_zero_or_pos C with rfl | h'
  · simp at h
  · exact h'
theorem Y2 {R C k : Nat} (h : k < R * C) : k / C < R := (Nat.div_lt_iff_lt_mul (JP h)).2 h
theorem J0 {M N : Tab} {R C : Nat} (h : ∀ i j, i < R → j < C → M i j = N i j) : qj M R C = qj N R C := by
  refine List.map_congr_left fun k hk => h _ _ (Y2 (List.mem_range.1 hk)) (Nat.mod_lt _ (JP (List.mem_range.1 hk)))
theorem Qt {M N : Tab} {C i : Nat} (h : ∀ j, j < C → M i j = N i j) : q4 M C i = q4 N C i := List.map_congr_left fun j hj => h j (List.mem_range.1 hj)
theorem J9 {M N : Tab} {R C : Nat} (h : ∀ i j, i < R → j < C → M i j = N i j) : qh M R C = qh N R C := List.map_congr_left fun i hi => Qt fun j hj => h i j (List.mem_range.1 hi) hj
theorem zao {l : List Int} {R C : Nat} (hl : l.length = R * C) : qj (qD l C) R C = l := by
  refine List.ext_getElem (by rw [qK, hl]) fun k h1 h2 => ?_
  simp only [qj, qD, List.getElem_map, List.getElem_range]
  rw [Nat.mul_comm, Nat.div_add_mod]
  simp [List.getD_eq_getElem?_getD, h2]
theorem Zw (M : Tab) {R C i j : Nat} (hi : i < R) (hj : j < C) (v : Int) : (qj M R C).set (i * C + j) v = qj (upd M i j v) R C := by
  refine List.ext_getElem (by simp [qj]) fun k h1 h2 => ?_
  rw [List.getElem_set]
  simp only [qj, upd, List.getElem_map, List.getElem_range]
  by_cases c : i * C + j = k
  · subst c
    rw [if_pos rfl, if_pos ⟨Z9 hj, ZI hj⟩]
  · rw [if_neg c, if_neg]
    rintro ⟨rfl, rfl⟩
    exact c (by rw [Nat.mul_comm]; exact Nat.div_add_mod k C)
theorem YX (M : Tab) {C i j : Nat} (hj : j < C) (v : Int) : (q4 M C i).set j v = q4 (upd M i j v) C i := by
  refine List.ext_getElem (by simp [q4]) fun k h1 h2 => ?_
  rw [List.getElem_set]
  simp only [q4, upd, List.getElem_map, List.getElem_range]
  by_cases c : j = k
  · subst c; simp
  · simp [c, show ¬ k = j from fun h => c h.symm]
theorem Ya (M N : Tab) {R C i : Nat} (hi : i < R) (h : ∀ a b, a ≠ i → N a b = M a b) : (qh M R C).set i (q4 N C i) = qh N R C := by
  refine List.ext_getElem (by simp [qh]) fun k h1 h2 => ?_
  rw [List.getElem_set]
  simp only [qh, List.getElem_map, List.getElem_range]
  by_cases c : i = k
  · subst c; rw [if_pos rfl]
  · rw [if_neg c]; exact Qt fun j _ => (h k j (Ne.symm c)).symm
theorem Je (M : Tab) {R C i j : Nat} (hi : i < R) (hj : j < C) (v : Int) : (qh M R C).set i ((q4 M C i).set j v) = qh (upd M i j v) R C := by
  rw [YX M hj]
  exact Ya _ _ hi fun a b h => by unfold upd; rw [if_neg (fun c => h c.1)]
theorem JC (M : Tab) (R C : Nat) : (qh M R C).flatten = qj M R C := by
  induction R with
  | zero => simp [qh, qj]
  | succ R ih =>
    have h1 : qh M (R + 1) C = qh M R C ++ [q4 M C R] := by simp [qh, List.range_succ]
    rw [h1, List.flatten_append, ih, List.flatten_singleton]
    refine List.ext_getElem (by simp [qj, q4, Nat.succ_mul]) fun k h2 h3 => ?_
    rw [List.getElem_append]
    simp only [qK]
    split
    · simp [qj]
    · rename_i hk
      simp only [qK, Nat.succ_mul] at h3
      have hm : k - R * C < C := by omega
      obtain ⟨m, rfl⟩ : ∃ m, k = R * C + m := ⟨k - R * C, by omega⟩
      simp only [q4, qj, List.getElem_map, List.getElem_range, Nat.add_sub_cancel_left]
      rw [Nat.add_sub_cancel_left] at hm
      rw [Z9 hm, ZI hm]
theorem Y3 (M : Tab) {R C t : Nat} (h : t ≤ R) : (qh M R C).take t = qh M t C := by
  rw [qh, ← List.map_take, List.take_range, Nat.min_eq_left h]; rfl
theorem YT (M : Tab) {R C t : Nat} (h : t ≤ R) : (qj M R C).take (t * C) = qj M t C := by
  rw [qj, ← List.map_take, List.take_range, Nat.min_eq_left (Nat.mul_le_mul_right _ h)]; rfl
def jh (F : (Nat → Int) → Nat → Int) (M : Tab) (j : Nat) : Tab := fun i c => if c = j then F (fun i => M i j) i else M i c
def qg (F : (Nat → Int) → Nat → Int) (M : Tab) : Tab := fun i c => F (fun i => M i c) i
theorem Yy (F : (Nat → Int) → Nat → Int) (M : Tab) (n : Nat) : (List.range n).foldl (jh F) M = fun i c => if c < n then F (fun i => M i c) i else M i c := by
  induction n with
  | zero => funext i c; simp
  | succ n ih =>
    rw [List.range_succ, List.foldl_append, List.foldl_cons, List.foldl_nil, ih]
    funext i c
    unfold jh
    by_cases h1 : c = n
    · subst h1
      simp
    · by_cases h2 : c < n
      · simp [h1, h2, Nat.lt_succ_of_lt h2]
      · simp [h1, h2, show ¬ c < n + 1 by omega]
theorem ZP (F : (Nat → Int) → Nat → Int) (M : Tab) (R C : Nat) : qj ((List.range C).foldl (jh F) M) R C = qj (qg F M) R C := by
  rw [Yy]; exact J0 fun i j _ hj => by simp [hj, qg]
theorem ZY (F : (Nat → Int) → Nat → Int) (M : Tab) (R C : Nat) : qh ((List.range C).foldl (jh F) M) R C = qh (qg F M) R C := by
  rw [Yy]; exact J9 fun i j _ hj => by simp [hj, qg]
def jd (a b : Nat) (f : Nat → Int) (i : Nat) : Int := if i = b then f a else if i = a then f b else f i
def vK (p : Int) (r : Nat) (x : Int) (f : Nat → Int) (i : Nat) : Int := if i = r then Int.tmod (f r * x) p else f i
def QA (p : Int) (r i0 : Nat) (g : Int) (f : Nat → Int) (i : Nat) : Int := if i = i0 then Int.tmod (f i0 + (p - g) * f r) p else f i
def q8 (p : Int) (r col : Nat) (M : Tab) (i : Nat) : Tab := if i = r then M else qg (QA p r i (M i col)) M
def yN (p : Int) (r col R : Nat) (M : Tab) : Tab := (List.range R).foldl (q8 p r col) M
/-- The inverse of a number in a Jy field. -/
def vo (p a : Int) : Int := ((a.toNat ^ (p.toNat - 2) % p.toNat : Nat) : Int)
def yf (p : Int) (R t col : Nat) (M : Tab) : Tab := yN p t col R (qg (vK p t (vo p (M t col))) M)
/-- Where a column has a number that is not 0, from row t on. -/
def zX (M : Tab) (R t col : Nat) : Nat := ((List.range' t (R - t)).find? fun i => decide (M i col ≠ 0)).getD R
structure Red where
  t : Nat
  M : Tab
  ps : List Int
def qp (p : Int) (R : Nat) (s : Red) (j : Nat) : Red :=
  if zX s.M R s.t j < R then ⟨s.t + 1, yf p R s.t j (qg (jd s.t (zX s.M R s.t j)) s.M), s.ps ++ [(j : Int)]⟩ else s
def y0 (p : Int) (R C : Nat) (M : Tab) : Red := (List.range C).foldl (qp p R) ⟨0, M, []⟩
def InF (p : Int) (R C : Nat) (M : Tab) : Prop := ∀ i j, i < R → j < C → 0 ≤ M i j ∧ M i j < p
theorem J8 {x p : Int} (h : 0 ≤ x) (hp : 2 ≤ p) : 0 ≤ Int.tmod x p ∧ Int.tmod x p < p := by
  rw [Int.tmod_eq_emod_of_nonneg h]; exact ⟨Int.emod_nonneg _ (by omega), Int.emod_lt_of_pos _ (by omega)⟩
section
variable {p : Int} {R C : Nat} {M : Tab}
theorem InF.swap (h : InF p R C M) {a b : Nat} (ha : a < R) (hb : b < R) : InF p R C (qg (jd a b) M) := fun i j hi hj => by
  unfold qg jd
  split
  · exact h a j ha hj
  · split
    · exact h b j hb hj
    · exact h i j hi hj
theorem InF.scale (h : InF p R C M) (hp : 2 ≤ p) {r : Nat} (hr : r < R) {x : Int} (hx : 0 ≤ x) : InF p R C (qg (vK p r x) M) := fun i j hi hj => by
  unfold qg vK
  split
  · exact J8 (Int.mul_nonneg (h r j hr hj).1 hx) hp
  · exact h i j hi hj
theorem InF.elim (h : InF p R C M) (hp : 2 ≤ p) {r i0 : Nat} (hr : r < R) (hi0 : i0 < R) {g : Int} (hg : 0 ≤ g ∧ g < p) : InF p R C (qg (QA p r i0 g) M) := fun i j hi hj => by
  unfold qg QA
  split
  · refine J8 ?_ hp
    have h1 := (h i0 j hi0 hj).1
    have h2 := Int.mul_nonneg (show 0 ≤ p - g by omega) (h r j hr hj).1
    show 0 ≤ M i0 j + (p - g) * M r j
    exact Int.add_nonneg h1 h2
  · exact h i j hi hj
theorem InF.q8 (h : InF p R C M) (hp : 2 ≤ p) {r col i : Nat} (hr : r < R) (hc : col < C) (hi : i < R) : InF p R C (q8 p r col M i) := by
  unfold L.q8
  split
  · exact h
  · exact h.elim hp hr hi (h i col hi hc)
theorem InF.yN (hp : 2 ≤ p) {r col : Nat} (hr : r < R) (hc : col < C) : ∀ n, n ≤ R → ∀ {M : Tab}, InF p R C M → InF p R C ((List.range n).foldl (L.q8 p r col) M)
  | 0, _, _, h => h
  | n + 1, hn, M, h => by
    rw [List.range_succ, List.foldl_append]
    exact (InF.yN hp hr hc n (by omega) h).q8 hp hr hc (by omega)
theorem Qw (p a : Int) : 0 ≤ vo p a := Int.natCast_nonneg _
theorem zbE {p : Int} (hp : 2 ≤ p) (a : Int) : vo p a < p := by
  have h : a.toNat ^ (p.toNat - 2) % p.toNat < p.toNat := Nat.mod_lt _ (by omega)
  unfold vo
  omega
theorem InF.pivot (h : InF p R C M) (hp : 2 ≤ p) {r col : Nat} (hr : r < R) (hc : col < C) : InF p R C (yf p R r col M) := by
  unfold yf L.yN
  exact InF.yN hp hr hc R (Nat.le_refl _) (h.scale hp hr (Qw _ _))
end
theorem Zu {M : Tab} {R a col : Nat} (h : a < R) : zX M R a col = if M a col = 0 then zX M R (a + 1) col else a := by
  unfold zX
  obtain ⟨m, hm⟩ : ∃ m, R - a = m + 1 := ⟨R - a - 1, by omega⟩
  rw [hm, List.range'_succ, List.find?_cons, show R - (a + 1) = m by omega]
  by_cases c : M a col = 0
  · simp [c]
  · simp [c]
theorem y3 (M : Tab) (R col : Nat) : zX M R R col = R := by simp [zX]
theorem jA (M : Tab) (R col : Nat) : ∀ d a, a + d = R → a ≤ zX M R a col ∧ zX M R a col ≤ R ∧ (zX M R a col < R → M (zX M R a col) col ≠ 0) ∧ ∀ i, a ≤ i → i < zX M R a col → M i col = 0
  | 0, a, h => by
    obtain rfl : a = R := by omega
    rw [y3]; exact ⟨Nat.le_refl _, Nat.le_refl _, fun h => absurd h (by omega), fun i h1 h2 => absurd h1 (by omega)⟩
  | d + 1, a, h => by
    rw [Zu (show a < R by omega)]
    by_cases c : M a col = 0
    · rw [if_pos c]
      obtain ⟨h1, h2, h3, h4⟩ := jA M R col d (a + 1) (by omega)
      exact ⟨by omega, h2, h3, fun i h5 h6 => by
        rcases Nat.eq_or_lt_of_le h5 with rfl | h7
        · exact c
        · exact h4 i h7 h6⟩
    · rw [if_neg c]
      exact ⟨Nat.le_refl _, by omega, fun _ => c, fun i h5 h6 => absurd h5 (by omega)⟩
theorem Vx (M : Tab) {R C i : Nat} (hi : i < R) : ((qj M R C).take ((i + 1) * C)).drop (i * C) = q4 M C i := by
  rw [YT M (show i + 1 ≤ R by omega)]
  refine List.ext_getElem (by simp [qj, q4, Nat.succ_mul]) fun k h1 h2 => ?_
  rw [ji] at h2
  simp only [List.getElem_drop, qj, q4, List.getElem_map, List.getElem_range, Z9 h2, ZI h2]
theorem Qi (M : Tab) (C i : Nat) : qj M i C ++ q4 M C i = qj M (i + 1) C := by
  rw [← JC, ← JC, show qh M (i + 1) C = qh M i C ++ [q4 M C i] by simp [qh, List.range_succ], List.flatten_append, List.flatten_singleton]
theorem zah (M : Tab) (C i : Nat) : qh M i C ++ [q4 M C i] = qh M (i + 1) C := by simp [qh, List.range_succ]
theorem zab (M : Tab) {R C a b : Nat} (ha : a < R) (hb : b < R) : ((qh M R C).set a (q4 M C b)).set b (q4 M C a) = qh (qg (jd a b) M) R C := by
  refine List.ext_getElem (by simp [qh]) fun k h1 h2 => ?_
  rw [List.getElem_set, List.getElem_set]
  simp only [qh, List.getElem_map, List.getElem_range]
  by_cases c1 : b = k
  · subst c1; rw [if_pos rfl]; unfold q4 qg jd; simp
  · rw [if_neg c1]
    by_cases c2 : a = k
    · subst c2; rw [if_pos rfl]; unfold q4 qg jd; simp [Ne.symm c1]
    · rw [if_neg c2]; unfold q4 qg jd; simp [Ne.symm c1, Ne.symm c2]
structure JN (p : Int) (R C : Nat) (s : Red) : Prop where
  t_le : s.t ≤ R
  inF : InF p R C s.M
  len : s.ps.length = s.t
theorem JN.step {p : Int} {R C : Nat} {s : Red} (h : JN p R C s) (hp : 2 ≤ p) {j : Nat} (hj : j < C) : JN p R C (qp p R s j) := by
  unfold qp
  split
  · rename_i hlt
    obtain ⟨h1, h2, h3, h4⟩ := jA s.M R j (R - s.t) s.t (by have := h.t_le; omega)
    exact ⟨by show s.t + 1 ≤ R; omega, (h.inF.swap (by omega) hlt).pivot hp (by omega) hj, by show (s.ps ++ [(j : Int)]).length = s.t + 1; rw [List.length_append, h.len]; rfl⟩
  · exact h
end Go.Proofs.Ytjlbfbpjcmjdfaa.L
end
section
namespace Go.Proofs.Ytjlbfbpjcmjdfaa.L
open Go.RowKit Go.Proofs.Ytjlbfbpjcmjdfaa.F Go.Proofs.YtjlbfbpjcmjdfaaW.PrintWords Go.Proofs.YtjlbfbpjcmjdfaaW.PrintLast Go.Proofs.YtjlbfbpjcmjdfaaW.PrintMore
open Go.Proofs.Ytjlbfbpjcmjdfaa.Bits
open Go.Proofs.Ytjlbfbpjcmjdfaa.Mt (sdiff qt elems jN)

def ints (l : List Nat) : List Int := l.map fun x : Nat => (x : Int)
theorem J1 (l : List Nat) (j : Nat) (h : j < l.length) : rd (ints l) (j : Int) = ((l[j]'h : Nat) : Int) := by
  simp [rd, ints, List.getElem?_eq_getElem h]
theorem qi (l : List Nat) : (ints l).length = l.length := by simp [ints]
theorem vT (s : Nat) : (elems s).length ≤ 8 := by
  have := List.length_filter_le s.testBit (List.range 8); simpa [elems] using this
/-- A number that is a set of eight elements. -/
def isAny (s : Int) : Bool := decide (0 ≤ s ∧ s < 256)

theorem ZR (s : Int) : z1.f s = some (isAny s) := by
  unfold z1.f isAny
  split <;> simp <;> omega

theorem zbI (x a b : Int) : zC.f x a b = some (decide (a ≤ x ∧ x ≤ b)) := by
  unfold zC.f
  split <;> simp <;> omega

theorem zbC (n s : Int) : jJ.f n s = some (decide (0 ≤ n ∧ n ≤ 8 ∧ 0 ≤ s ∧ s < 2 ^ n.toNat)) := by
  unfold jJ.f
  simp only [zbI, Option.bind_some, decide_eq_true_eq]
  split
  · rename_i h
    obtain ⟨m, rfl⟩ := Int.eq_ofNat_of_zero_le h.1
    have hm : m ≤ 8 := by omega
    have hp : (2 : Nat) ^ m ≤ 2 ^ 8 := Nat.pow_le_pow_right (by decide) hm
    rw [Z7 (by omega) (by omega), Ze m (by omega), if_pos (by omega)]
    rw [qQ (by generalize 2 ^ m = x at hp ⊢; omega) (by generalize 2 ^ m = x at hp ⊢; omega)]
    simp only [Int.toNat_natCast, Option.some.injEq, decide_eq_decide]
    have : (2 : Int) ^ m = ((2 ^ m : Nat) : Int) := by simp
    rw [this]
    generalize 2 ^ m = x at hp ⊢
    omega
  · simp; omega

theorem Qc (n : Int) : zQ.f n = some (decide (0 ≤ n ∧ n ≤ 8)) := by
  unfold zQ.f
  split <;> simp <;> omega
theorem Yx (n s : Int) : qN.f n s = some (decide (0 ≤ n ∧ n ≤ 8 ∧ 0 ≤ s ∧ s < 2 ^ n.toNat)) := by
  unfold qN.f
  rw [Qc]
  simp only [Option.bind_some, decide_eq_true_eq]
  by_cases h : 0 ≤ n ∧ n ≤ 8
  · rw [if_pos h]
    by_cases hs : s ≥ 0
    · rw [if_pos hs, if_pos h.1]
      obtain ⟨m, rfl⟩ := Int.eq_ofNat_of_zero_le h.1
      rw [Ze m (by omega)]
      simp only [Int.toNat_natCast, Option.some.injEq, decide_eq_decide]
      have : (2 : Int) ^ m = ((2 ^ m : Nat) : Int) := by simp
      rw [this]
      generalize 2 ^ m = x
      omega
    · rw [if_neg hs]; simp; omega
  · rw [if_neg h]; simp; omega
theorem J2 (s e : Int) : q6.f s e = some (isAny s && decide (0 ≤ e ∧ e < 8) && s.toNat.testBit e.toNat) := by
  unfold q6.f
  rw [ZR]
  simp only [Option.bind_some]
  cases hs : isAny s
  · simp
  · rw [if_pos rfl]
    have hs' : 0 ≤ s ∧ s < 256 := by simpa [isAny] using hs
    by_cases h0 : e ≥ 0
    · rw [if_pos h0]
      by_cases h8 : e < 8
      · obtain ⟨a, rfl⟩ := Int.eq_ofNat_of_zero_le hs'.1
        obtain ⟨b, rfl⟩ := Int.eq_ofNat_of_zero_le h0
        rw [if_pos h8, if_pos h0, YP _ _ (by omega) (by omega)]
        simp; omega
      · rw [if_neg h8]; simp; omega
    · rw [if_neg h0]; simp; omega

/-- The elements of a number: none where it is no set. -/
def yx (s : Int) : List Nat := if isAny s then elems s.toNat else []

theorem Zr (s : Int) : (yx s).length ≤ 8 := by
  unfold yx; split
  · exact vT _
  · simp

theorem Zx (s : Int) (L : Nat → List Int → Int → Option (List Int))
    (hL : ∀ k (acc : List Int) (i : Nat), L (k + 1) acc i = if (i : Int) < 8 then (if (isAny s && decide (0 ≤ (i : Int) ∧ (i : Int) < 8) && s.toNat.testBit (i : Int).toNat) = true then (if acc.length < 17592186044416 then L k (acc ++ [(i : Int)]) (wrap64 ((i : Int) + 1)) else none) else L k acc (wrap64 ((i : Int) + 1))) else some acc) :
    ∀ (d i : Nat) (acc : List Int), i + d = 8 → acc.length ≤ i → Ev (fun k => L k acc i) (acc ++ ints ((List.range' i d).filter fun e => isAny s && s.toNat.testBit e))
  | 0, i, acc, hd, _ => by
    obtain rfl : i = 8 := by omega
    refine Ev.succ ?_
    simp only [hL, show ¬ (((8 : Nat) : Int) < 8) by decide, if_false]
    simpa [ints] using Ev.now acc
  | d + 1, i, acc, hd, ha => by
    refine Ev.succ ?_
    have h8 : (i : Int) < 8 := by omega
    have hw : wrap64 ((i : Int) + 1) = ((i + 1 : Nat) : Int) := qQ (by omega) (by omega)
    simp only [hL, h8, hw, if_true, Int.toNat_natCast, Int.natCast_nonneg, decide_true, Bool.and_true, and_self]
    rw [List.range'_succ]
    cases hb : (isAny s && s.toNat.testBit i)
    · simp only [hb, List.filter_cons, Bool.false_eq_true, if_false]
      exact Zx s L hL d (i + 1) acc (by omega) (by omega)
    · simp only [hb, List.filter_cons, if_true, show acc.length < 17592186044416 by omega]
      have := Zx s L hL d (i + 1) (acc ++ [(i : Int)]) (by omega) (by simp; omega)
      simpa [ints] using this

theorem YV (s : Int) : (List.range' 0 8).filter (fun e => isAny s && s.toNat.testBit e) = yx s := by
  unfold yx elems
  rw [List.range_eq_range']
  cases isAny s <;> simp

theorem yR (s : Int) : Ev (fun k => zA.f k s) (ints (yx s)) := by
  have := Zx s (fun k acc i => zA.l0 k s acc i) (fun k acc i => by simp only [zA.l0, J2, Option.bind_some]) 8 0 [] rfl (by simp)
  rw [YV] at this
  simpa [zA.f] using this

theorem VN (s n : Nat) (hn : n ≤ 8) (h : s < 2 ^ n) : elems s = (List.range n).filter s.testBit := by
  unfold elems
  obtain ⟨m, hm⟩ : ∃ m, 8 = n + m := ⟨8 - n, by omega⟩
  rw [hm, List.range_add, List.filter_append]
  have : List.filter s.testBit (List.map (fun x => n + x) (List.range m)) = [] := by
    rw [List.filter_eq_nil_iff]
    intro a ha
    obtain ⟨b, _, rfl⟩ := List.mem_map.1 ha
    rw [Nat.testBit_lt_two_pow (Nat.lt_of_lt_of_le h (Nat.pow_le_pow_right (by decide) (by omega)))]
    simp
  rw [this, List.append_nil]

end Go.Proofs.Ytjlbfbpjcmjdfaa.L
end
section
namespace Go.Proofs.Ytjlbfbpjcmjdfaa.L
open Go.RowKit Go.Proofs.Ytjlbfbpjcmjdfaa.F Go.Proofs.YtjlbfbpjcmjdfaaW.PrintWords Go.Proofs.YtjlbfbpjcmjdfaaW.PrintLast Go.Proofs.YtjlbfbpjcmjdfaaW.PrintMore
open Go.Proofs.Ytjlbfbpjcmjdfaa.Bits
set_option linter.unusedSimpArgs false
def isField (p : Int) : Bool := decide (p = 2 ∨ p = 3 ∨ p = 5 ∨ p = 7)
theorem Y4 (p : Int) : qu.f p = some (isField p) := by
  unfold qu.f isField
  by_cases h2 : p = 2
  · simp [h2]
  by_cases h3 : p = 3
  · simp [h3]
  by_cases h5 : p = 5
  · simp [h5]
  rw [if_neg h2, if_neg h3, if_neg h5]
  simp only [h2, h3, h5, false_or]
  rfl
theorem YR (p : Int) : qb.f p = some (isField p) := by
  unfold qb.f isField
  by_cases h2 : p = 2
  · simp [h2]
  by_cases h3 : p = 3
  · simp [h3]
  by_cases h5 : p = 5
  · simp [h5]
  rw [if_neg h2, if_neg h3, if_neg h5]
  simp only [h2, h3, h5, false_or]
  rfl
/-- What a matrix is. -/
def jj (p r c : Int) (l : List Int) : Bool :=
  isField p && decide (0 ≤ r ∧ r ≤ 8 ∧ 0 ≤ c ∧ c ≤ 8 ∧ (l.length : Int) = r * c) && l.all fun x => decide (0 ≤ x ∧ x < p)
theorem jv {p r c : Int} {l : List Int} (h : ¬ (isField p = true ∧ 0 ≤ r ∧ r ≤ 8 ∧ 0 ≤ c ∧ c ≤ 8 ∧ (l.length : Int) = r * c)) : jj p r c l = false := by
  unfold jj
  cases hp : isField p
  · simp
  · have : ¬ (0 ≤ r ∧ r ≤ 8 ∧ 0 ≤ c ∧ c ≤ 8 ∧ (l.length : Int) = r * c) := fun hh => h ⟨hp, hh⟩
    simp only [this, decide_false, Bool.and_false, Bool.false_and]
theorem QL {r c : Int} (hr : 0 ≤ r ∧ r ≤ 8) (hc : 0 ≤ c ∧ c ≤ 8) : 0 ≤ r * c ∧ r * c ≤ 64 :=
  ⟨Int.mul_nonneg hr.1 hc.1, by have := Int.mul_le_mul hr.2 hc.2 hc.1 (by omega : (0 : Int) ≤ 8); omega⟩
theorem ZO {p r c : Int} {l : List Int} (h : isField p = true ∧ 0 ≤ r ∧ r ≤ 8 ∧ 0 ≤ c ∧ c ≤ 8 ∧ (l.length : Int) = r * c) : jj p r c l = l.all fun x => decide (0 ≤ x ∧ x < p) := by
  unfold jj; simp only [h.1, h.2, and_self, decide_true, Bool.and_self, Bool.true_and]
theorem jL {p : Int} (h : isField p = true) : 2 ≤ p ∧ p ≤ 7 := by
  have : p = 2 ∨ p = 3 ∨ p = 5 ∨ p = 7 := of_decide_eq_true h
  omega
theorem V1 (p r c : Int) (l : List Int) : Ev (fun k => zn.f k p r c l) (jj p r c l) := by
  have no : ∀ p r c l, Ev (fun k => zn.j0 k true p r c l) false := fun p r c l => Ev.succ (by simp only [zn.j0, if_true]; exact Ev.now _)
  unfold zn.f
  simp only [zbI, YR, Option.bind_some, decide_eq_true_eq]
  by_cases hp : isField p = true
  · simp only [hp, if_true]
    by_cases hr : 0 ≤ r ∧ r ≤ 8
    · simp only [hr, and_self, if_true]
      by_cases hc : 0 ≤ c ∧ c ≤ 8
      · simp only [hc, and_self, if_true]
        have hm := QL hr hc
        have hw : wrap64 (r * c) = r * c := qQ (by omega) (by omega)
        rw [hw]
        by_cases he : (l.length : Int) = r * c
        · rw [show ((l.length : Int) != r * c) = false by simp [he], ZO ⟨hp, hr.1, hr.2, hc.1, hc.2, he⟩]
          have hp2 := jL hp
          refine Ev.succ ?_
          simp only [zn.j0, Bool.false_eq_true, if_false]
          rw [← Zn l 0]
          refine y9 (fun k i => zn.l0 k i p r c l) _ _ (fun k => by simp only [zn.l0, show ¬ ((l.length : Int) < (l.length : Int)) by omega, if_false]) ?_
          intro i hi k
          have hw : wrap64 (p - 1) = p - 1 := qQ (by omega) (by omega)
          simp only [zn.l0, show ((i : Int) < (l.length : Int)) by omega, show (0 : Int) ≤ (i : Int) by omega, if_true, qY, zS (show i < 9223372036854775807 by omega), zbI, hw, Option.bind_some, decide_eq_true_eq]
          generalize l.getD i 0 = x
          by_cases h1 : 0 ≤ x ∧ x ≤ p - 1
          · rw [if_pos h1, if_pos (by omega)]
          · rw [if_neg h1, if_neg (by omega)]
        · rw [show ((l.length : Int) != r * c) = true by simp [he], jv (fun hh => he hh.2.2.2.2.2)]; exact no _ _ _ _
      · simp only [hc, if_false]; rw [jv (fun hh => hc ⟨hh.2.2.2.1, hh.2.2.2.2.1⟩)]; exact no _ _ _ _
    · simp only [hr, if_false]; rw [jv (fun hh => hr ⟨hh.2.1, hh.2.2.1⟩)]; exact no _ _ _ _
  · simp only [hp, if_false]; rw [jv (fun hh => hp hh.1)]; exact no _ _ _ _
theorem QR (p r c : Int) (l : List Int) : Ev (fun k => zl.f k p r c l) (jj p r c l) := by
  have no : ∀ p r c l, Ev (fun k => zl.j0 k true p r c l) false := fun p r c l => Ev.succ (by simp only [zl.j0, if_true]; exact Ev.now _)
  unfold zl.f
  simp only [Qc, Y4, Option.bind_some, decide_eq_true_eq]
  by_cases hp : isField p = true
  · simp only [hp, if_true]
    by_cases hr : 0 ≤ r ∧ r ≤ 8
    · simp only [hr, and_self, if_true]
      by_cases hc : 0 ≤ c ∧ c ≤ 8
      · simp only [hc, and_self, if_true]
        have hm := QL hr hc
        have hw : wrap64 (r * c) = r * c := qQ (by omega) (by omega)
        rw [hw]
        by_cases he : (l.length : Int) = r * c
        · rw [show ((l.length : Int) != r * c) = false by simp [he], ZO ⟨hp, hr.1, hr.2, hc.1, hc.2, he⟩]
          refine Ev.succ ?_
          simp only [zl.j0, Bool.false_eq_true, if_false]
          rw [← Zn l 0]
          refine y9 (fun k i => zl.l0 k l (l.length : Int) i p r c l) _ _ (fun k => by simp only [zl.l0, show ¬ ((l.length : Int) < (l.length : Int)) by omega, if_false]) ?_
          intro i hi k
          simp only [zl.l0, show ((i : Int) < (l.length : Int)) by omega, show (0 : Int) ≤ (i : Int) by omega, if_true, qY, zS (show i < 9223372036854775807 by omega), decide_eq_true_eq]
          generalize l.getD i 0 = x
          by_cases h1 : x < 0
          · rw [if_pos h1, if_neg (by omega)]
          rw [if_neg h1]
          by_cases h2 : x ≥ p
          · rw [if_pos h2, if_neg (by omega)]
          rw [if_neg h2, if_pos (by omega)]
        · rw [show ((l.length : Int) != r * c) = true by simp [he], jv (fun hh => he hh.2.2.2.2.2)]; exact no _ _ _ _
      · simp only [hc, if_false]; rw [jv (fun hh => hc ⟨hh.2.2.2.1, hh.2.2.2.2.1⟩)]; exact no _ _ _ _
    · simp only [hr, if_false]; rw [jv (fun hh => hr ⟨hh.2.1, hh.2.2.1⟩)]; exact no _ _ _ _
  · simp only [hp, if_false]; rw [jv (fun hh => hp hh.1)]; exact no _ _ _ _
theorem ZS (p r c : Int) (l : List Int) (h : l.length ≤ 17592186044416) : Ev (fun k => zM.f k p r c l) (p, r, c, l) := by
  unfold zM.f
  exact Ev.bind (zcv l h) (Ev.now _)
theorem zbd (p r c : Int) (l : List Int) (p' r' c' : Int) (l' : List Int) (h : l.length ≤ 17592186044416) : Ev (fun k => qo.f k p r c l p' r' c' l') (decide ((p, r, c, l) = (p', r', c', l'))) := by
  unfold qo.f
  by_cases h1 : p = p'
  · by_cases h2 : r = r'
    · by_cases h3 : c = c'
      · simp only [h1, h2, h3, if_true]
        refine Ev.bind (zbe l l' h) ?_
        by_cases h4 : l = l'
        · simp only [h4, decide_true, if_true]; exact Ev.now _
        · simp only [h4, decide_false, Bool.false_eq_true, if_false]; simp only [Prod.mk.injEq, h4, and_false, decide_false]; exact Ev.now _
      · simp only [h1, h2, h3, if_true, if_false, Prod.mk.injEq, and_false, false_and, decide_false]; exact Ev.now _
    · simp only [h1, h2, if_true, if_false, Prod.mk.injEq, and_false, false_and, decide_false]; exact Ev.now _
  · simp only [h1, if_false, Prod.mk.injEq, false_and, decide_false]; exact Ev.now _
theorem zaT (p r c : Int) (l : List Int) (n : Int) (h : l.length ≤ 17592186044416) (h0 : 0 ≤ n) (h1 : n ≤ 1048576) : ∃ m, jc.f p r c l n = some m ∧ (m < 0 ∨ (0 ≤ m ∧ m ≤ 1048576 ∧ l.length ≤ 1048576)) := by
  unfold jc.f
  rw [zco l n h h0 h1]
  simp only [Option.bind_some]
  by_cases hn : n < (l.length : Int)
  · rw [if_pos hn, if_pos (by decide)]
    exact ⟨_, rfl, .inl (by decide)⟩
  · rw [if_neg hn, if_neg (by omega)]
    exact ⟨_, rfl, .inr (by omega)⟩
end Go.Proofs.Ytjlbfbpjcmjdfaa.L
end
section
namespace Go.Proofs.Ytjlbfbpjcmjdfaa.L
open Go.RowKit Go.Proofs.Ytjlbfbpjcmjdfaa.F Go.Proofs.YtjlbfbpjcmjdfaaW.PrintWords Go.Proofs.YtjlbfbpjcmjdfaaW.PrintLast Go.Proofs.YtjlbfbpjcmjdfaaW.PrintMore
open Go.Proofs.Ytjlbfbpjcmjdfaa.Bits
set_option linter.unusedSimpArgs false
set_option linter.unusedVariables false
/-- What a matrix holds, in natural numbers' places. -/
theorem vX {p r c : Int} {l : List Int} (h : jj p r c l = true) : ∃ R C : Nat, r = R ∧ c = C ∧ R ≤ 8 ∧ C ≤ 8 ∧ l.length = R * C ∧ 2 ≤ p ∧ p ≤ 7 ∧ isField p = true ∧ ∀ x ∈ l, 0 ≤ x ∧ x < p := by
  unfold jj at h
  simp only [Bool.and_eq_true, decide_eq_true_eq] at h
  obtain ⟨⟨h1, h2, h3, h4, h5, h6⟩, h7⟩ := h
  obtain ⟨R, rfl⟩ := Int.eq_ofNat_of_zero_le h2
  obtain ⟨C, rfl⟩ := Int.eq_ofNat_of_zero_le h4
  have := jL h1
  refine ⟨R, C, rfl, rfl, by omega, by omega, ?_, this.1, this.2, h1, fun x hx => ?_⟩
  · have : ((l.length : Nat) : Int) = ((R * C : Nat) : Int) := by rw [h6]; simp
    omega
  · have := List.all_eq_true.1 h7 x hx; simpa using this
theorem zbA {R C i j : Nat} {l : List Int} (hl : l.length = R * C) (hi : i < R) (hj : j < C) : i * C + j < l.length := by
  rw [hl]; calc i * C + j < i * C + C := by omega
    _ = (i + 1) * C := by rw [Nat.succ_mul]
    _ ≤ R * C := Nat.mul_le_mul_right C hi
/-- The index of a cell, as1 the program computes it. -/
theorem jH {i C j : Nat} (hi : i ≤ 8) (hC : C ≤ 8) (hj : j ≤ 8) : wrap64 ((wrap64 ((i : Int) * (C : Int))) + (j : Int)) = ((i * C + j : Nat) : Int) := by
  have h : i * C ≤ 8 * 8 := Nat.mul_le_mul hi hC
  have e : (i : Int) * (C : Int) = ((i * C : Nat) : Int) := by simp
  rw [e, qQ (n := ((i * C : Nat) : Int)) (by omega) (by omega), qQ (by omega) (by omega)]; omega
theorem J4 {l : List Int} {p : Int} (hp : 2 ≤ p) (h : ∀ x ∈ l, 0 ≤ x ∧ x < p) (i : Nat) : 0 ≤ l.getD i 0 ∧ l.getD i 0 < p := by
  by_cases hi : i < l.length
  · have := h l[i] (List.getElem_mem hi); simpa [List.getElem?_eq_getElem hi] using this
  · simp [List.getElem?_eq_none (Nat.le_of_not_lt hi)]; omega
end Go.Proofs.Ytjlbfbpjcmjdfaa.L
end
section
namespace Go.Proofs.Ytjlbfbpjcmjdfaa.L
open Go.RowKit Go.Proofs.Ytjlbfbpjcmjdfaa.F Go.Proofs.YtjlbfbpjcmjdfaaW.PrintWords Go.Proofs.YtjlbfbpjcmjdfaaW.PrintLast Go.Proofs.YtjlbfbpjcmjdfaaW.PrintMore
open Go.Proofs.Ytjlbfbpjcmjdfaa.Bits
set_option linter.unusedSimpArgs false
set_option linter.unusedVariables false
theorem V0 : ∀ k : Nat, zp.f (k + 20) 2 1 = some 1 ∧ zp.f (k + 20) 3 1 = some 1 ∧ zp.f (k + 20) 3 2 = some 2 ∧ zp.f (k + 20) 5 1 = some 1 ∧ zp.f (k + 20) 5 2 = some 3 ∧ zp.f (k + 20) 5 3 = some 2 ∧ zp.f (k + 20) 5 4 = some 4 ∧ zp.f (k + 20) 7 1 = some 1 ∧ zp.f (k + 20) 7 2 = some 4 ∧ zp.f (k + 20) 7 3 = some 5 ∧ zp.f (k + 20) 7 4 = some 2 ∧ zp.f (k + 20) 7 5 = some 3 ∧ zp.f (k + 20) 7 6 = some 6 :=
  fun k => ⟨by kernel_rfl, by kernel_rfl, by kernel_rfl, by kernel_rfl, by kernel_rfl, by kernel_rfl, by kernel_rfl, by kernel_rfl, by kernel_rfl, by kernel_rfl, by kernel_rfl, by kernel_rfl, by kernel_rfl⟩
theorem zcV {p a : Int} (hp : isField p = true) (ha : 1 ≤ a) (hap : a < p) : ∀ k, zp.f (k + 20) p a = some (vo p a) := fun k => by
  obtain ⟨h1, h2, h3, h4, h5, h6, h7, h8, h9, h10, h11, h12, h13⟩ := V0 k
  have hp : p = 2 ∨ p = 3 ∨ p = 5 ∨ p = 7 := by simpa [isField] using hp
  rcases hp with rfl | rfl | rfl | rfl
  · obtain rfl : a = 1 := by omega
    exact h1
  · rcases (show a = 1 ∨ a = 2 by omega) with rfl | rfl <;> assumption
  · rcases (show a = 1 ∨ a = 2 ∨ a = 3 ∨ a = 4 by omega) with rfl | rfl | rfl | rfl <;> assumption
  · rcases (show a = 1 ∨ a = 2 ∨ a = 3 ∨ a = 4 ∨ a = 5 ∨ a = 6 by omega) with rfl | rfl | rfl | rfl | rfl | rfl <;> assumption
theorem zcD {p a : Int} (hp : isField p = true) (ha : 1 ≤ a) (hap : a < p) : Ev (fun k => zp.f k p a) (vo p a) :=
  ⟨20, fun k hk => by obtain ⟨m, rfl⟩ := Nat.exists_eq_add_of_le hk; rw [Nat.add_comm]; exact zcV hp ha hap m⟩
theorem yG {x y : Int} (hx : 0 ≤ x ∧ x ≤ 7) (hy : 0 ≤ y ∧ y ≤ 7) : 0 ≤ x * y ∧ x * y ≤ 64 := QL ⟨hx.1, by omega⟩ ⟨hy.1, by omega⟩
theorem wrap_mul {x y : Int} (hx : 0 ≤ x ∧ x ≤ 7) (hy : 0 ≤ y ∧ y ≤ 7) : wrap64 (x * y) = x * y := qQ (by have := yG hx hy; omega) (by have := yG hx hy; omega)
theorem Y1 {p g : Int} (hp : 2 ≤ p ∧ p ≤ 7) (hg : 0 ≤ g ∧ g < p) : wrap64 (p - g) = p - g := qQ (by omega) (by omega)
theorem Y8 {x p g y : Int} (hp : 2 ≤ p ∧ p ≤ 7) (hx : 0 ≤ x ∧ x < p) (hg : 0 ≤ g ∧ g < p) (hy : 0 ≤ y ∧ y < p) : wrap64 (x + wrap64 (wrap64 (p - g) * y)) = x + (p - g) * y := by
  rw [Y1 hp hg, wrap_mul ⟨by omega, by omega⟩ ⟨hy.1, by omega⟩]
  have := yG (x := p - g) (y := y) ⟨by omega, by omega⟩ ⟨hy.1, by omega⟩
  exact qQ (by omega) (by omega)
theorem za1 (M : Tab) (a b j : Nat) : upd (upd M a j (M b j)) b j (M a j) = jh (jd a b) M j := by
  funext i c
  unfold upd jh jd
  by_cases h1 : c = j
  · subst h1
    by_cases h2 : i = b
    · subst h2; simp
    · by_cases h3 : i = a
      · subst h3; simp [h2]
      · simp [h2, h3]
  · simp [h1]
theorem Y7 (M : Tab) (p : Int) (r j : Nat) (x : Int) : upd M r j (Int.tmod (M r j * x) p) = jh (vK p r x) M j := by
  funext i c
  unfold upd jh vK
  by_cases h1 : c = j
  · subst h1
    by_cases h2 : i = r
    · subst h2; simp
    · simp [h2]
  · simp [h1]
theorem zaG (M : Tab) (p : Int) (r i0 j : Nat) (g : Int) : upd M i0 j (Int.tmod (M i0 j + (p - g) * M r j) p) = jh (QA p r i0 g) M j := by
  funext i c
  unfold upd jh QA
  by_cases h1 : c = j
  · subst h1
    by_cases h2 : i = i0
    · subst h2; simp
    · simp [h2]
  · simp [h1]
/-- What a fold by columns leaves alone is in the field still. -/
theorem Zy {p : Int} {R C : Nat} {F : (Nat → Int) → Nat → Int} (hF : ∀ M : Tab, InF p R C M → InF p R C (qg F M)) {M : Tab} (h : InF p R C M) {j : Nat} (hj : j < C) : InF p R C (jh F M j) := fun i c hi hc => by
  unfold jh
  split
  · exact hF M h i j hi hj
  · exact h i c hi hc
end Go.Proofs.Ytjlbfbpjcmjdfaa.L
end
section
namespace Go.Proofs.Ytjlbfbpjcmjdfaa.Mt
theorem j5 (a b i : Nat) : (a ||| b).testBit i = (a.testBit i || b.testBit i) := Nat.testBit_or a b i
theorem jx (a b i : Nat) : (a &&& b).testBit i = (a.testBit i && b.testBit i) := Nat.testBit_and a b i
theorem JW (e i : Nat) : (2 ^ e).testBit i = decide (e = i) := by
  rw [Nat.testBit_two_pow]
theorem jI (i : Nat) : (0 : Nat).testBit i = false := Nat.zero_testBit i
theorem ext {a b : Nat} (h : ∀ i, a.testBit i = b.testBit i) : a = b := Nat.eq_of_testBit_eq h
/-- s with e; s without e. -/
def ins (s e : Nat) : Nat := s ||| 2 ^ e
def del (s e : Nat) : Nat := sdiff s (2 ^ e)
theorem ql (s e i : Nat) : (ins s e).testBit i = (s.testBit i || decide (e = i)) := by rw [ins, j5, JW]
theorem qU (s e i : Nat) : (del s e).testBit i = (s.testBit i && !decide (e = i)) := by rw [del, qt, JW]
def sub (a b : Nat) : Prop := ∀ i, a.testBit i = true → b.testBit i = true
theorem yF (a : Nat) : sub a a := fun _ h => h
theorem jf {a b c : Nat} (h : sub a b) (k : sub b c) : sub a c := fun i hi => k i (h i hi)
theorem vP {a b : Nat} (h : sub a b) (k : sub b a) : a = b := ext fun i => by
  have h1 := h i; have h2 := k i
  cases ha : a.testBit i <;> cases hb : b.testBit i <;> simp_all
theorem qF {a b : Nat} : sub a b ↔ a &&& b = a := by
  constructor
  · intro h; apply ext; intro i; rw [jx]; have := h i; cases ha : a.testBit i <;> simp_all
  · intro h i hi; have := congrArg (fun x => Nat.testBit x i) h; simp only [jx, hi, Bool.true_and] at this; exact this
theorem jS {a b : Nat} : sub a b ↔ sdiff a b = 0 := by
  constructor
  · intro h; apply ext; intro i; rw [qt, jI]; have := h i; cases ha : a.testBit i <;> simp_all
  · intro h i hi
    have := congrArg (fun x => Nat.testBit x i) h
    simp only [qt, hi, jI, Bool.true_and, Bool.not_eq_false'] at this; exact this
theorem Zg (s e : Nat) : sub s (ins s e) := fun i hi => by rw [ql, hi, Bool.true_or]
theorem YM (s e : Nat) : (ins s e).testBit e = true := by simp [ql]
theorem yt (s e : Nat) : sub (del s e) s := fun i hi => by rw [qU] at hi; simp at hi; exact hi.1
theorem jl (a b : Nat) : sub (a &&& b) a := fun i hi => by rw [jx] at hi; simp at hi; exact hi.1
theorem vD (a b : Nat) : sub (a &&& b) b := fun i hi => by rw [jx] at hi; simp at hi; exact hi.2
theorem Vo (a b : Nat) : sub a (a ||| b) := fun i hi => by rw [j5, hi, Bool.true_or]
theorem zbn {a b c : Nat} (h : sub c a) (k : sub c b) : sub c (a &&& b) := fun i hi => by rw [jx, h i hi, k i hi]; rfl
theorem zcf {s e : Nat} (h : s.testBit e = true) : ins s e = s := ext fun i => by
  rw [ql]; by_cases he : e = i
  · subst he; simp [h]
  · simp [he]
theorem Vj {a b : Nat} (h : ¬ sub a b) : ∃ i, a.testBit i = true ∧ b.testBit i = false := by
  apply Classical.byContradiction
  intro hn; apply h; intro i hi
  cases hb : b.testBit i
  · exact absurd ⟨i, hi, hb⟩ hn
  · rfl
theorem jW {s n i : Nat} (h : s < 2 ^ n) (hi : s.testBit i = true) : i < n := by
  rcases Nat.lt_or_ge i n with h' | h'
  · exact h'
  · rw [Nat.testBit_lt_two_pow (Nat.lt_of_lt_of_le h (Nat.pow_le_pow_right (by decide) h'))] at hi; cases hi
theorem yM {s n : Nat} (h : ∀ i, s.testBit i = true → i < n) : s < 2 ^ n := Nat.lt_pow_two_of_testBit s fun i hi => by
  cases hb : s.testBit i
  · rfl
  · have := h i hb; omega
theorem qO {a b n : Nat} (h : sub a b) (hb : b < 2 ^ n) : a < 2 ^ n := yM fun i hi => jW hb (h i hi)
theorem zac {a b : Nat} (h : sub a b) : a ≤ b := by rw [qF] at h; rw [← h]; exact Nat.and_le_right
/-- All elements below n. -/
def full (n : Nat) : Nat := 2 ^ n - 1
theorem VL (n i : Nat) : (full n).testBit i = decide (i < n) := Nat.testBit_two_pow_sub_one n i
theorem VC {s n : Nat} (h : s < 2 ^ n) : sub s (full n) := fun i hi => by rw [VL]; exact decide_eq_true (jW h hi)
def cnt (s : Nat) : Nat := (List.range 8).countP s.testBit
theorem Zj (p q : Nat → Bool) : ∀ l : List Nat, l.countP (fun i => p i || q i) + l.countP (fun i => p i && q i) = l.countP p + l.countP q
  | [] => rfl
  | a :: l => by
    have := Zj p q l
    simp only [List.countP_cons]
    cases p a <;> cases q a <;> simp <;> omega
theorem Jd (a b : Nat) : cnt (a ||| b) + cnt (a &&& b) = cnt a + cnt b := by
  have := Zj a.testBit b.testBit (List.range 8)
  simp only [cnt]
  rw [show Nat.testBit (a ||| b) = fun i => a.testBit i || b.testBit i from funext (j5 a b), show Nat.testBit (a &&& b) = fun i => a.testBit i && b.testBit i from funext (jx a b)]
  exact this
theorem jB {a b : Nat} (h : sub a b) : cnt a ≤ cnt b := List.countP_mono_left fun i _ hi => h i hi
theorem Q5 : cnt 0 = 0 := by decide
theorem zaN (s : Nat) : cnt s ≤ 8 := by have := List.countP_le_length (p := s.testBit) (l := List.range 8); simpa [cnt] using this
theorem ZV {a b : Nat} (h : a &&& b = 0) : cnt (a ||| b) = cnt a + cnt b := by have := Jd a b; rw [h, Q5] at this; omega
theorem zbK {e : Nat} (h : e < 8) : cnt (2 ^ e) = 1 := by
  have : ∀ e, e < 8 → cnt (2 ^ e) = 1 := by decide
  exact this e h
theorem JQ (a b : Nat) : cnt (sdiff a b) + cnt (a &&& b) = cnt a := by
  have h : sdiff a b &&& (a &&& b) = 0 := ext fun i => by simp only [jx, qt, jI]; cases a.testBit i <;> cases b.testBit i <;> rfl
  have k : sdiff a b ||| (a &&& b) = a := ext fun i => by simp only [j5, jx, qt]; cases a.testBit i <;> cases b.testBit i <;> rfl
  rw [← ZV h, k]
theorem yz {a b : Nat} (h : sub b a) : cnt (sdiff a b) + cnt b = cnt a := by
  have := JQ a b
  rwa [show a &&& b = b from by rw [Nat.and_comm]; exact qF.1 h] at this
theorem Zc {s e : Nat} (he : e < 8) (h : s.testBit e = false) : cnt (ins s e) = cnt s + 1 := by
  have : s &&& 2 ^ e = 0 := ext fun i => by
    rw [jx, JW, jI]; by_cases hi : e = i
    · subst hi; simp [h]
    · simp [hi]
  rw [ins, ZV this, zbK he]
theorem y8 {s e : Nat} (he : e < 8) (h : s.testBit e = true) : cnt (del s e) + 1 = cnt s := by
  have k : ins (del s e) e = s := ext fun i => by
    rw [ql, qU]; by_cases hi : e = i
    · subst hi; simp [h]
    · simp [hi]
  have := Zc (s := del s e) he (by simp [qU])
  rw [k] at this; omega
theorem zbp {s e : Nat} (he : e < 8) (h : s.testBit e = true) : 0 < cnt s := by have := y8 he h; omega
theorem QQ {s : Nat} (hs : s < 256) (h : cnt s = 0) : s = 0 := by
  apply ext; intro i; rw [jI]
  cases hb : s.testBit i
  · rfl
  · have := zbp (jW (n := 8) hs hb) hb; omega
theorem yW {a b : Nat} (ha : a < 256) (h : cnt (a &&& b) = cnt a) : sub a b := by
  have := JQ a b
  have hz : cnt (sdiff a b) = 0 := by omega
  exact jS.2 (QQ (qO (n := 8) (fun i hi => by rw [qt] at hi; simp at hi; exact hi.1) ha) hz)
theorem yv {a b : Nat} (h : sub a b) (hb : b < 256) (hc : cnt b ≤ cnt a) : a = b := by
  refine vP h (yW hb ?_)
  have h1 := jB (jl b a)
  have : b &&& a = a := by rw [Nat.and_comm]; exact qF.1 h
  rw [this]; have := jB h; omega
theorem zaB {n : Nat} (h : n ≤ 8) : cnt (full n) = n := by
  have : ∀ n, n ≤ 8 → cnt (full n) = n := by decide
  exact this n h
theorem ZJ {a b : Nat} (h : cnt b < cnt a) : ∃ i, a.testBit i = true ∧ b.testBit i = false :=
  Vj fun k => by have := jB k; omega

/-- The bases of a matroid of n elements: by exchange. -/
structure Mat (n : Nat) (B : List Nat) : Prop where
  size : n ≤ 8
  lt : ∀ b ∈ B, b < 2 ^ n
  ne : B ≠ []
  ex : ∀ a ∈ B, ∀ b ∈ B, ∀ e, a.testBit e = true → b.testBit e = false → ∃ f, b.testBit f = true ∧ a.testBit f = false ∧ ins (del a e) f ∈ B
section
variable {n : Nat} {B : List Nat}
theorem jR {s n : Nat} (hn : n ≤ 8) (h : s < 2 ^ n) : s < 256 := Nat.lt_of_lt_of_le h (Nat.pow_le_pow_right (n := 2) (by decide) hn)
theorem Mat.lt8 (M : Mat n B) {b : Nat} (h : b ∈ B) : b < 256 := jR M.size (M.lt b h)
theorem Mat.zbt (M : Mat n B) {b e : Nat} (h : b ∈ B) (he : b.testBit e = true) : e < 8 := jW (n := 8) (M.lt8 h) he
theorem zaQ {a e f : Nat} (ha : a < 256) (hf8 : f < 8) (he : a.testBit e = true) (hf : a.testBit f = false) : cnt (ins (del a e) f) = cnt a := by
  have h8 : e < 8 := jW (n := 8) ha he
  have h1 := y8 h8 he
  have h2 := Zc (s := del a e) hf8 (by rw [qU, hf]; rfl)
  omega
theorem Mat.le (M : Mat n B) : ∀ k a b, a ∈ B → b ∈ B → cnt (sdiff a b) = k → cnt a ≤ cnt b := by
  intro k
  induction k using Nat.strongRecOn with
  | _ k ih =>
    intro a b ha hb hk
    by_cases hs : sub a b
    · exact jB hs
    · obtain ⟨e, he, heb⟩ := Vj hs
      obtain ⟨f, hfb, hfa, hin⟩ := M.ex a ha b hb e he heb
      have e8 := M.zbt ha he
      have f8 := M.zbt hb hfb
      have hsw := zaQ (M.lt8 ha) f8 he hfa
      have hd : sdiff (ins (del a e) f) b = del (sdiff a b) e := ext fun i => by
        simp only [qt, ql, qU]
        by_cases hi : f = i
        · subst hi; simp [hfb]
        · simp only [hi, decide_false, Bool.or_false]; cases a.testBit i <;> cases b.testBit i <;> simp
      have hc := y8 (s := sdiff a b) e8 (by rw [qt, he, heb]; rfl)
      have := ih (cnt (del (sdiff a b) e)) (by omega) (ins (del a e) f) b hin hb (by rw [hd])
      omega
/-- All bases are of one size. -/
theorem Mat.Ql (M : Mat n B) {a b : Nat} (ha : a ∈ B) (hb : b ∈ B) : cnt a = cnt b := Nat.le_antisymm (M.le _ a b ha hb rfl) (M.le _ b a hb ha rfl)

/-- The rank of s: the most that a base has of it. -/
def rk (B : List Nat) (s : Nat) : Nat := B.foldl (fun m b => max m (cnt (s &&& b))) 0
theorem Z6 {α : Type} (f : α → Nat) : ∀ (l : List α) (m k : Nat), l.foldl (fun m b => max m (f b)) m ≤ k ↔ m ≤ k ∧ ∀ b ∈ l, f b ≤ k
  | [], m, k => by simp
  | a :: l, m, k => by
    rw [List.foldl_cons, Z6 f l]
    simp only [List.mem_cons, forall_eq_or_imp, Nat.max_le, and_assoc]
theorem VJ {s k : Nat} : rk B s ≤ k ↔ ∀ b ∈ B, cnt (s &&& b) ≤ k := by
  unfold rk; rw [Z6 (fun b => cnt (s &&& b))]; simp
theorem Yv {b : Nat} (hb : b ∈ B) (s : Nat) : cnt (s &&& b) ≤ rk B s := VJ.1 (Nat.le_refl _) b hb
theorem zbQ (hB : B ≠ []) (s : Nat) : ∃ b ∈ B, cnt (s &&& b) = rk B s := by
  apply Classical.byContradiction
  intro h
  have h1 : ∀ b ∈ B, cnt (s &&& b) < rk B s := fun b hb => Nat.lt_of_le_of_ne (Yv hb s) fun e => h ⟨b, hb, e⟩
  obtain ⟨c, hc⟩ := List.exists_mem_of_ne_nil B hB
  have h2 : rk B s ≤ rk B s - 1 := VJ.2 fun b hb => by have := h1 b hb; omega
  have := h1 c hc
  omega
theorem JJ (s : Nat) : rk B s ≤ cnt s := VJ.2 fun _ _ => jB (jl _ _)
theorem vn {s t : Nat} (h : sub s t) : rk B s ≤ rk B t := VJ.2 fun b hb => Nat.le_trans (jB (fun i hi => by
  rw [jx] at hi ⊢; simp at hi ⊢; exact ⟨h i hi.1, hi.2⟩)) (Yv hb t)
theorem Mat.zbM (M : Mat n B) {b : Nat} (hb : b ∈ B) {s : Nat} (hs : sub (full n) s) : rk B s = cnt b := by
  apply Nat.le_antisymm
  · exact VJ.2 fun c hc => by rw [M.Ql hb hc]; exact jB (vD _ _)
  · have := Yv hb s
    have h2 : s &&& b = b := by rw [Nat.and_comm]; exact qF.1 (jf (VC (M.lt b hb)) hs)
    rwa [h2] at this
/-- A set within a base. -/
def ind (B : List Nat) (s : Nat) : Prop := ∃ b ∈ B, sub s b
theorem yc {s t : Nat} (h : sub s t) (k : ind B t) : ind B s := by obtain ⟨b, hb, hs⟩ := k; exact ⟨b, hb, jf h hs⟩
theorem jD (hB : B ≠ []) {s : Nat} (hs : s < 256) : ind B s ↔ rk B s = cnt s := by
  constructor
  · rintro ⟨b, hb, h⟩
    have := Yv hb s
    rw [qF.1 h] at this
    exact Nat.le_antisymm (JJ s) this
  · intro h
    obtain ⟨b, hb, hc⟩ := zbQ hB s
    exact ⟨b, hb, yW hs (by omega)⟩
/-- What is within a base grows to a base by elements of any other. -/
theorem Mat.grow (M : Mat n B) {I c : Nat} (hI : ind B I) (hc : c ∈ B) : ∃ b ∈ B, sub I b ∧ sub b (I ||| c) := by
  obtain ⟨b0, hb0, hs0⟩ := hI
  have key : ∀ k b, b ∈ B → sub I b → cnt (sdiff b (I ||| c)) = k → ∃ b ∈ B, sub I b ∧ sub b (I ||| c) := by
    intro k
    induction k using Nat.strongRecOn with
    | _ k ih =>
      intro b hb hs hk
      by_cases hh : sub b (I ||| c)
      · exact ⟨b, hb, hs, hh⟩
      · obtain ⟨e, he, hn⟩ := Vj hh
        rw [j5] at hn
        have hn' := Bool.or_eq_false_iff.1 hn
        obtain ⟨f, hfc, hfb, hin⟩ := M.ex b hb c hc e he hn'.2
        have hd : sdiff (ins (del b e) f) (I ||| c) = del (sdiff b (I ||| c)) e := ext fun i => by
          simp only [qt, ql, qU, j5]
          by_cases hi : f = i
          · subst hi; simp [hfc]
          · simp only [hi, decide_false, Bool.or_false]; cases b.testBit i <;> cases I.testBit i <;> cases c.testBit i <;> simp
        have h1 := y8 (s := sdiff b (I ||| c)) (M.zbt hb he) (by rw [qt, he, j5, hn]; rfl)
        refine ih _ (by rw [hd]; omega) _ hin (fun i hi => ?_) rfl
        rw [ql, qU, hs i hi]
        have : e ≠ i := fun h => by subst h; rw [hi] at hn'; exact absurd hn'.1 (by simp)
        simp [this]
  exact key _ b0 hb0 hs0 rfl
/-- The smaller of two independent sets takes an element of the greater. -/
theorem Mat.zbo (M : Mat n B) {I J : Nat} (hI : ind B I) (hJ : ind B J) (h : cnt I < cnt J) : ∃ x, J.testBit x = true ∧ I.testBit x = false ∧ ind B (ins I x) := by
  obtain ⟨c, hc, hJc⟩ := hJ
  obtain ⟨b, hb, hIb, hbc⟩ := M.grow hI hc
  apply Classical.byContradiction
  intro hn
  have h1 : sub (b &&& J) I := fun i hi => by
    rw [jx] at hi; simp at hi
    cases hx : I.testBit i
    · exact absurd ⟨i, hi.2, hx, b, hb, fun j hj => by
        rw [ql] at hj; rcases Bool.or_eq_true_iff.1 hj with hj | hj
        · exact hIb j hj
        · rw [← of_decide_eq_true hj]; exact hi.1⟩ hn
    · rfl
  -- b without I lies in c without J
  have h2 : sub (sdiff b I) (sdiff c J) := fun i hi => by
    rw [qt] at hi ⊢; simp at hi
    have h3 := hbc i hi.1
    rw [j5, hi.2, Bool.false_or] at h3
    rw [h3, Bool.true_and]
    cases hj : J.testBit i
    · rfl
    · have := h1 i (by rw [jx, hi.1, hj]; rfl); rw [hi.2] at this; cases this
  have c1 := jB h2
  have c2 := yz hIb
  have c3 := yz hJc
  have c4 := M.Ql hb hc
  omega
/-- An independent part of s that is as1 great as1 its rank, around any independent part of s. -/
theorem Mat.y6 (M : Mat n B) {s I : Nat} (hs : s < 256) (hI : ind B I) (hIs : sub I s) : ∃ J, ind B J ∧ sub I J ∧ sub J s ∧ cnt J = rk B s := by
  obtain ⟨b, hb, hc⟩ := zbQ M.ne s
  have hJ0 : ind B (s &&& b) := ⟨b, hb, vD _ _⟩
  have key : ∀ k I, ind B I → sub I s → rk B s - cnt I = k → ∃ J, ind B J ∧ sub I J ∧ sub J s ∧ cnt J = rk B s := by
    intro k
    induction k with
    | zero =>
      intro I hI hIs hk
      have h1 : cnt I ≤ rk B s := by rw [← (jD M.ne (qO (n := 8) hIs hs)).1 hI]; exact vn hIs
      exact ⟨I, hI, yF _, hIs, by omega⟩
    | succ k ih =>
      intro I hI hIs hk
      obtain ⟨x, hx, hxI, hin⟩ := M.zbo hI hJ0 (by omega)
      have hxs : s.testBit x = true := jl _ _ x hx
      have h8 : x < 8 := jW (n := 8) hs hxs
      have h1 := Zc h8 hxI
      have hsub : sub (ins I x) s := fun i hi => by
        rw [ql] at hi; rcases Bool.or_eq_true_iff.1 hi with hi | hi
        · exact hIs i hi
        · rw [← of_decide_eq_true hi]; exact hxs
      obtain ⟨J, h2, h3, h4, h5⟩ := ih (ins I x) hin hsub (by omega)
      exact ⟨J, h2, jf (Zg I x) h3, h4, h5⟩
  exact key _ I hI hIs rfl
theorem Q2 (hB : B ≠ []) : ind B 0 := by
  obtain ⟨c, hc⟩ := List.exists_mem_of_ne_nil B hB
  exact ⟨c, hc, fun i hi => by rw [jI] at hi; cases hi⟩
/-- The rank of what is gathered and of what is common: no more than both together. -/
theorem Mat.zb4 (M : Mat n B) {s t : Nat} (hs : s < 256) (ht : t < 256) : rk B (s ||| t) + rk B (s &&& t) ≤ rk B s + rk B t := by
  have hst : s ||| t < 256 := Nat.or_lt_two_pow (n := 8) hs ht
  have hand : s &&& t < 256 := Nat.and_lt_two_pow (n := 8) _ ht
  obtain ⟨I, hI, _, hIs, hIc⟩ := M.y6 hand (Q2 M.ne) (fun i hi => by rw [jI] at hi; cases hi)
  obtain ⟨J, hJ, hIJ, hJs, hJc⟩ := M.y6 hst hI (jf hIs (jf (jl _ _) (Vo _ _)))
  have h1 : ind B (J &&& s) := yc (jl _ _) hJ
  have h2 : ind B (J &&& t) := yc (jl _ _) hJ
  have hJ8 : J < 256 := qO (n := 8) hJs hst
  have c1 : cnt (J &&& s) ≤ rk B s := by
    rw [← (jD M.ne (qO (n := 8) (jl _ _) hJ8)).1 h1]; exact vn (vD _ _)
  have c2 : cnt (J &&& t) ≤ rk B t := by
    rw [← (jD M.ne (qO (n := 8) (jl _ _) hJ8)).1 h2]; exact vn (vD _ _)
  have c3 := Jd (J &&& s) (J &&& t)
  have e1 : J &&& s ||| J &&& t = J := ext fun i => by
    rw [j5, jx, jx]; have := hJs i; rw [j5] at this
    revert this
    cases J.testBit i <;> cases s.testBit i <;> cases t.testBit i <;> simp
  have e2 : sub I (J &&& s &&& (J &&& t)) := fun i hi => by
    have a := hIJ i hi; have b := hIs i hi; rw [jx] at b; simp at b
    simp [a, b]
  have c4 := jB e2
  rw [e1] at c3
  omega
end
end Go.Proofs.Ytjlbfbpjcmjdfaa.Mt
end
section
namespace Go.Proofs.Ytjlbfbpjcmjdfaa.Mt
def setOf (n : Nat) (p : Nat → Bool) : Nat := (List.range n).foldl (fun o e => if p e then ins o e else o) 0
theorem ZL (p : Nat → Bool) (i : Nat) : ∀ (l : List Nat) (o : Nat), (l.foldl (fun o e => if p e then ins o e else o) o).testBit i = (o.testBit i || (decide (i ∈ l) && p i))
  | [], o => by simp
  | a :: l, o => by
    rw [List.foldl_cons, ZL p i l]
    by_cases ha : a = i
    · subst ha
      cases hp : p a <;> simp [ql]
    · have : (i = a) = False := eq_false fun h => ha h.symm
      cases hp : p a <;> simp [ql, ha, this]
theorem Qm (n : Nat) (p : Nat → Bool) (i : Nat) : (setOf n p).testBit i = (decide (i < n) && p i) := by
  unfold setOf; rw [ZL, jI]; simp
theorem za3 (n : Nat) (p : Nat → Bool) : setOf n p < 2 ^ n := yM fun i hi => by rw [Qm] at hi; simp at hi; exact hi.1
theorem Qn {s e n : Nat} (hs : s < 2 ^ n) (he : e < n) : ins s e < 2 ^ n := yM fun i hi => by
  rw [ql] at hi; rcases Bool.or_eq_true_iff.1 hi with hi | hi
  · exact jW hs hi
  · rw [← of_decide_eq_true hi]; exact he
theorem yO {s t e : Nat} (h : sub s t) (he : t.testBit e = true) : sub (ins s e) t := fun i hi => by
  rw [ql] at hi; rcases Bool.or_eq_true_iff.1 hi with hi | hi
  · exact h i hi
  · rw [← of_decide_eq_true hi]; exact he
theorem ZM {s t : Nat} (e : Nat) (h : sub s t) : sub (ins s e) (ins t e) := yO (jf h (Zg t e)) (YM t e)
theorem Ym {s e : Nat} (h : s.testBit e = true) : ins (del s e) e = s := ext fun i => by
  rw [ql, qU]; by_cases hi : e = i
  · subst hi; simp [h]
  · simp [hi]

section
variable {n : Nat} {B : List Nat}
/-- What adds nothing to the rank, one by one, adds nothing together. -/
theorem Mat.zcq (M : Mat n B) {s t : Nat} (ht : t < 2 ^ n) (hst : sub s t) (h : ∀ e, t.testBit e = true → rk B (ins s e) = rk B s) : rk B t = rk B s := by
  have ht8 : t < 256 := jR M.size ht
  have hs8 : s < 256 := qO (n := 8) hst ht8
  apply Nat.le_antisymm _ (vn hst)
  obtain ⟨I, hI, _, hIs, hIc⟩ := M.y6 hs8 (Q2 M.ne) (fun i hi => by rw [jI] at hi; cases hi)
  obtain ⟨J, hJ, hIJ, hJt, hJc⟩ := M.y6 ht8 hI (jf hIs hst)
  apply Nat.le_of_not_lt
  intro hlt
  obtain ⟨x, hxJ, hxI⟩ := ZJ (a := J) (b := I) (by omega)
  have h8 : x < 8 := jW (n := 8) (qO (n := 8) hJt ht8) hxJ
  have h1 : ind B (ins I x) := yc (yO hIJ hxJ) hJ
  have h2 := (jD M.ne (qO (n := 8) (yO (jf hIJ hJt) (hJt x hxJ)) ht8)).1 h1
  have h3 := Zc h8 hxI
  have h4 : rk B (ins I x) ≤ rk B (ins s x) := vn (ZM x hIs)
  have h5 := h x (hJt x hxJ)
  omega
/-- The closure of s. -/
def cl (n : Nat) (B : List Nat) (s : Nat) : Nat := setOf n fun e => decide (rk B (ins s e) = rk B s)
theorem zb0 (s e : Nat) : (cl n B s).testBit e = (decide (e < n) && decide (rk B (ins s e) = rk B s)) := Qm _ _ _
theorem yw {s e : Nat} : (cl n B s).testBit e = true ↔ e < n ∧ rk B (ins s e) = rk B s := by rw [zb0]; simp
theorem zaK (s : Nat) : cl n B s < 2 ^ n := za3 _ _
theorem Vg {s : Nat} (hs : s < 2 ^ n) : sub s (cl n B s) := fun i hi => yw.2 ⟨jW hs hi, by rw [zcf hi]⟩
theorem Mat.zcx (M : Mat n B) {s : Nat} (hs : s < 2 ^ n) : rk B (cl n B s) = rk B s := M.zcq (zaK s) (Vg hs) fun _ he => (yw.1 he).2
/-- What adds nothing to s adds nothing to more. -/
theorem Mat.Vr (M : Mat n B) {s t e : Nat} (ht : t < 2 ^ n) (he : e < n) (hst : sub s t) (h : rk B (ins s e) = rk B s) : rk B (ins t e) = rk B t := by
  have h1 := M.zb4 (s := ins s e) (t := t) (jR M.size (Qn (qO hst ht) he)) (jR M.size ht)
  have h2 : ins s e ||| t = ins t e := ext fun i => by
    rw [j5, ql, ql]; have := hst i; revert this; cases s.testBit i <;> cases t.testBit i <;> cases decide (e = i) <;> simp
  have h3 : rk B s ≤ rk B (ins s e &&& t) := vn (zbn (Zg s e) hst)
  rw [h2] at h1
  have h4 : rk B t ≤ rk B (ins t e) := vn (Zg t e)
  omega
theorem Mat.YQ (M : Mat n B) {s t : Nat} (ht : t < 2 ^ n) (hst : sub s t) : sub (cl n B s) (cl n B t) := fun _ hi =>
  yw.2 ⟨(yw.1 hi).1, M.Vr ht (yw.1 hi).1 hst (yw.1 hi).2⟩
theorem Mat.zcP (M : Mat n B) {s : Nat} (hs : s < 2 ^ n) : cl n B (cl n B s) = cl n B s := by
  refine vP (fun i hi => ?_) (Vg (zaK s))
  obtain ⟨h1, h2⟩ := yw.1 hi
  refine yw.2 ⟨h1, ?_⟩
  have h3 : rk B (ins s i) ≤ rk B (ins (cl n B s) i) := vn (ZM i (Vg hs))
  rw [h2, M.zcx hs] at h3
  exact Nat.le_antisymm h3 (vn (Zg s i))
theorem Mat.zcd (M : Mat n B) {s t : Nat} (ht : t < 2 ^ n) (h : sub s (cl n B t)) : sub (cl n B s) (cl n B t) := by
  have := M.YQ (zaK (n := n) (B := B) t) h; rwa [M.zcP ht] at this
/-- A least dependent set. -/
def Ye (n : Nat) (B : List Nat) (c : Nat) : Prop := c < 2 ^ n ∧ ¬ ind B c ∧ ∀ e, c.testBit e = true → ind B (del c e)
theorem VX {d : Nat} (hd : d < 2 ^ n) (hn : n ≤ 8) (h : ¬ ind B d) : ∃ c, Ye n B c ∧ sub c d := by
  have key : ∀ k d, d < 2 ^ n → ¬ ind B d → cnt d = k → ∃ c, Ye n B c ∧ sub c d := by
    intro k
    induction k using Nat.strongRecOn with
    | _ k ih =>
      intro d hd h hk
      by_cases hh : ∀ e, d.testBit e = true → ind B (del d e)
      · exact ⟨d, ⟨hd, h, hh⟩, yF d⟩
      · obtain ⟨e, he⟩ := Classical.not_forall.1 hh
        obtain ⟨he, hne⟩ := Classical.not_imp.1 he
        have := y8 (jW (n := 8) (jR hn hd) he) he
        obtain ⟨c, hc, hs⟩ := ih _ (by omega) (del d e) (qO (yt d e) hd) hne rfl
        exact ⟨c, hc, jf hs (yt d e)⟩
  exact key _ d hd h rfl
theorem Mat.YA (M : Mat n B) {c e : Nat} (hc : Ye n B c) (he : c.testBit e = true) : (cl n B (del c e)).testBit e = true := by
  refine yw.2 ⟨jW hc.1 he, ?_⟩
  rw [Ym he]
  have hc8 := jR M.size hc.1
  have h1 := (jD M.ne (qO (n := 8) (yt c e) hc8)).1 (hc.2.2 e he)
  have h2 := y8 (jW (n := 8) hc8 he) he
  have h3 : rk B c ≠ cnt c := fun h => hc.2.1 ((jD M.ne hc8).2 h)
  have h4 : rk B (del c e) ≤ rk B c := vn (yt c e)
  have h5 : rk B c ≤ cnt c := JJ c
  omega
theorem Mat.Yf (M : Mat n B) {y e : Nat} (hy : y < 2 ^ n) (hye : y.testBit e = false) (he : (cl n B y).testBit e = true) : ∃ c, Ye n B c ∧ c.testBit e = true ∧ sub c (ins y e) := by
  obtain ⟨h1, h2⟩ := yw.1 he
  have hy8 := jR M.size hy
  obtain ⟨I, hI, _, hIs, hIc⟩ := M.y6 hy8 (Q2 M.ne) (fun i hi => by rw [jI] at hi; cases hi)
  have hIe : I.testBit e = false := by
    cases h : I.testBit e
    · rfl
    · rw [hIs e h] at hye; cases hye
  have hIlt : I < 2 ^ n := qO hIs hy
  have hlt := Qn hIlt h1
  have hdep : ¬ ind B (ins I e) := fun h => by
    have h3 := (jD M.ne (jR M.size hlt)).1 h
    have h4 : rk B (ins I e) ≤ rk B (ins y e) := vn (ZM e hIs)
    have h5 := Zc (Nat.lt_of_lt_of_le h1 M.size) hIe
    omega
  obtain ⟨c, hc, hs⟩ := VX hlt M.size hdep
  refine ⟨c, hc, ?_, jf hs (ZM e hIs)⟩
  cases hce : c.testBit e
  · refine absurd (yc (fun j hj => ?_) hI) hc.2.1
    have := hs j hj
    rw [ql] at this
    rcases Bool.or_eq_true_iff.1 this with h | h
    · exact h
    · rw [← of_decide_eq_true h, hce] at hj; cases hj
  · rfl
/-- Two circuits with f in common, and e in the first alone: there is one with e, without f, in both. -/
theorem Mat.elim (M : Mat n B) {c d e f : Nat} (hc : Ye n B c) (hd : Ye n B d) (_ : c.testBit f = true) (hfd : d.testBit f = true) (hec : c.testBit e = true) (hed : d.testBit e = false) :
    ∃ x, Ye n B x ∧ x.testBit e = true ∧ sub x (del (c ||| d) f) := by
  have hef : f ≠ e := fun h => by subst h; rw [hfd] at hed; cases hed
  have hcd : c ||| d < 2 ^ n := Nat.or_lt_two_pow hc.1 hd.1
  have hX : del (c ||| d) f < 2 ^ n := qO (yt _ _) hcd
  have hY : del (del (c ||| d) f) e < 2 ^ n := qO (yt _ _) hX
  -- f is in the closure of Y, so all of c is
  have h1 : (cl n B (del (del (c ||| d) f) e)).testBit f = true := by
    refine M.YQ hY (fun i hi => ?_) f (M.YA hd hfd)
    rw [qU] at hi; simp at hi
    have : e ≠ i := fun h => by subst h; rw [hed] at hi; exact absurd hi.1 (by simp)
    rw [qU, qU, j5, hi.1]; simp [hi.2, this]
  have h2 : sub (del c e) (cl n B (del (del (c ||| d) f) e)) := fun i hi => by
    rw [qU] at hi; simp at hi
    by_cases hif : f = i
    · subst hif; exact h1
    · exact Vg hY i (by rw [qU, qU, j5, hi.1]; simp [hif, hi.2])
  have h3 : (cl n B (del (del (c ||| d) f) e)).testBit e = true := M.zcd hY h2 e (M.YA hc hec)
  obtain ⟨x, hx, hxe, hxs⟩ := M.Yf hY (by simp [qU]) h3
  refine ⟨x, hx, hxe, jf hxs ?_⟩
  rw [Ym (by rw [qU, j5, hec]; simp [hef])]
  exact yF _
theorem Mat.congr {B' : List Nat} (M : Mat n B) (h : ∀ x, x ∈ B' ↔ x ∈ B) : Mat n B' where
  size := M.size
  lt := fun b hb => M.lt b ((h b).1 hb)
  ne := fun he => by
    obtain ⟨c, hc⟩ := List.exists_mem_of_ne_nil B M.ne
    have := (h c).2 hc; rw [he] at this; cases this
  ex := fun a ha b hb e hea heb => by
    obtain ⟨f, h1, h2, h3⟩ := M.ex a ((h a).1 ha) b ((h b).1 hb) e hea heb
    exact ⟨f, h1, h2, (h _).2 h3⟩
/-- The complement within n elements. -/
def co (n s : Nat) : Nat := sdiff (full n) s
theorem QT (n s i : Nat) : (co n s).testBit i = (decide (i < n) && !s.testBit i) := by rw [co, qt, VL]
theorem zcL (n s : Nat) : co n s < 2 ^ n := yM fun i hi => by rw [QT] at hi; simp at hi; exact hi.1
/-- A set that a base lies in. -/
def span (B : List Nat) (s : Nat) : Prop := ∃ b ∈ B, sub b s
/-- The bases are the least sets that span. -/
theorem Mat.QM (M : Mat n B) {s : Nat} : s ∈ B ↔ span B s ∧ ∀ t, span B t → sub t s → t = s := by
  constructor
  · intro hs
    refine ⟨⟨s, hs, yF s⟩, fun t ⟨b, hb, hbt⟩ hts => ?_⟩
    have hbs : b = s := yv (jf hbt hts) (M.lt8 hs) (Nat.le_of_eq (M.Ql hs hb))
    subst hbs
    exact vP hts hbt
  · rintro ⟨⟨b, hb, hbs⟩, h⟩
    rw [← h b ⟨b, hb, yF b⟩ hbs]; exact hb
end
end Go.Proofs.Ytjlbfbpjcmjdfaa.Mt
end
section
namespace Go.Proofs.Ytjlbfbpjcmjdfaa.Mt
set_option linter.unusedVariables false
section
variable {n : Nat} {B : List Nat}
end
end Go.Proofs.Ytjlbfbpjcmjdfaa.Mt
end
