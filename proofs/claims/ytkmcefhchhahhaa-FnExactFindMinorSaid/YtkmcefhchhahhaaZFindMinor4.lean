/- Several texts of this session in one: Fx4, Fx9, Fx27. Conditions: as each theorem says. -/
import Derived.Test.YtkmcefhchhahhaaZFindMinor0
import Derived.Test.YtkmcefhchhahhaaZFindMinor1
import Derived.Test.YtkmcefhchhahhaaZFindMinor3
import Derived.Test.YtkmcefhchhahhaaZFindMinor2
set_option maxHeartbeats 8000000
set_option maxRecDepth 100000
section
namespace Go.Proofs.Ytkmcefhchhahhaa.F
open Go.RowKit Go.Proofs.YtkmcefhchhahhaaW.PrintWords Go.Proofs.YtkmcefhchhahhaaW.PrintLast Go.Proofs.YtkmcefhchhahhaaW.PrintMore
attribute [local go_sem] jd q8 ji jj qP qN jc q4   -- for this text's walks alone
set_option linter.unusedVariables false
set_option linter.unusedSimpArgs false

def qA.f (k : Nat) (a0_0 : Int) (l0_1 : List Int) : Option (Bool) := (zB.f k a0_0 l0_1).bind fun bt253 => ((zY.f k a0_0 l0_1).bind fun t258 => (if t258 = true then (if (l0_1.length : Int) > 0 then (some (!bt253.2.2.2)) else (some false)) else (some false)))
theorem qA.calls (k : Nat) (a0_0 : Int) (A0_1 : Option Addr) (c0_1 : Nat) (l0_1 : List Int) (r : Bool) (w : World) (hr0_1 : Kd.C (Kd.int .i64) w A0_1 l0_1.length l0_1) (hc0_1 : l0_1.length ≤ c0_1) (h : qA.f k a0_0 l0_1 = some r) :
  Calls Try.prog 48 #[.agg #[.int .i64 a0_0, .slice A0_1 l0_1.length c0_1]] w fun e w' => e = .returned (.bool r) ∧ Below w.heap.size w w' := by
 have hu26 := Try.underlying26
 have hu58 := Try.underlying58
 have HR0_1 := Aside0.mk hr0_1
 have HC0_1 := Aside0.mk hc0_1
 clear hr0_1 hc0_1
 have HB := Aside0.mk (Below.refl w.heap.size w)
 have H : ((zB.f k a0_0 l0_1).bind fun bt253 => ((zY.f k a0_0 l0_1).bind fun t258 => (if t258 = true then (if (l0_1.length : Int) > 0 then (some (!bt253.2.2.2)) else (some false)) else (some false)))) = some r := h
 clear h
 replace H := Option.bind_eq_some_iff.mp H
 obtain ⟨⟨t253, t254, t255, t256⟩, A20, H⟩ := H
 replace H : ((zY.f k a0_0 l0_1).bind fun t258 => (if t258 = true then (if (l0_1.length : Int) > 0 then (some (!t256)) else (some false)) else (some false))) = some r := H
 have A2 := Aside0.mk A20
 clear A20
 replace H := Option.bind_eq_some_iff.mp H
 obtain ⟨t258, A30, H⟩ := H
 replace H : (if t258 = true then (if (l0_1.length : Int) > 0 then (some (!t256)) else (some false)) else (some false)) = some r := H
 have A3 := Aside0.mk A30
 clear A30
 by_cases c4 : t258 = true
 ·subst c4
  have H1 : (if (l0_1.length : Int) > 0 then (some (!t256)) else (some false)) = some r := by rw [if_pos rfl] at H; exact H
  clear H
  have H := H1
  clear H1
  by_cases c5 : (l0_1.length : Int) > 0
  ·rw [if_pos c5] at H
   have c5b0 : decide (0 < (l0_1.length : Int)) = true := decide_eq_true c5
   have c5b1 : decide (0 < l0_1.length) = true := decide_eq_true (by omega)
   clear c5
   obtain rfl := Option.some.inj H
   go_enter Try.func48, Try.ntmps48
   go_wp2_with (first | ((with_reducible refine zD (N := 1) rfl ?_); (try (refine qZ (by rfl) ?_; dsimp only)); refine zA ?hg (N := 1) ?hd (cs := #[.int .i64 a0_0, .slice A0_1 l0_1.length c0_1]) (t := 26) ?hr ?_; (case hd => rfl); (case hg => rfl); (case hr => first | (go_simp; done) | (go_simp; rfl)); intro gb252 hg w6 hbox hb; have n0_ := Aside0.mk (zl (by repeat (first | (with_reducible first | exact HB.out | apply zc | apply za | apply zb) | exact HB.out)) hb); have n1_ := Aside0.mk (hbox); have n2_ := Aside0.mk ((by rw [hg]; exact (zk (by repeat (first | (with_reducible first | exact HB.out | apply zc | apply za | apply zb) | exact HB.out))) : w.heap.size ≤ gb252)); have n3_ := Aside0.mk ((by rw [hg]; exact (zk (by repeat (first | (with_reducible first | exact HB.out | apply zc | apply za | apply zb) | exact HB.out))) : w.heap.size ≤ gb252)); clear HB; have HB := n0_; have BK252 := n1_; have GW252 := n2_; have GE252 := n3_; clear n0_ n1_ n2_ n3_; clear hb hbox hg; have hcz7_0 : w6.cell? ⟨gb252, 0, none⟩ = some (.int .i64 a0_0) := (zh BK252.out 0).trans rfl; have hcz7_1 : w6.cell? ⟨gb252, 1, none⟩ = some (.slice A0_1 l0_1.length c0_1) := (zh BK252.out 1).trans rfl; have hfz7_0 := zi BK252.out 0; have hfz7_1 := zi BK252.out 1) | ((with_reducible refine zo (f := 66) rfl ?_); refine zL (some 7) rfl rfl Try.func66 (by kernel_rfl) rfl #[.agg #[.int .i64 a0_0, .slice A0_1 l0_1.length c0_1]] rfl (by (try simp only [List.map_toArray, List.map_cons, List.map_nil]); first | done | rfl | (simp only [List.length_drop, List.length_take]; rfl)) ?_; (with_reducible refine (zB.calls k a0_0 _ _ l0_1 t253 t254 t255 t256 _ ?side1 ?side2 A2.out).mono ?_); (case side1 => repeat (first | exact (Kd.zG HR0_1.out HB.out) | (with_reducible refine Kd.zI ?_ _) | (with_reducible refine Kd.zH ?_ _) | (with_reducible refine Kd.zP ?_))); (case side2 => exact HC0_1.out); rintro e w8 ⟨rfl, hb⟩; refine ⟨_, rfl, ?_⟩; have n0_ := Aside0.mk (zj (g := gb252) (o := .cells #[.int .i64 a0_0, .slice A0_1 l0_1.length c0_1] 26 (0, 0)) (by (with_reducible repeat (first | refine ze ?_ _ | refine zg ?_ | refine zf ?_ _)); exact BK252.out) hb); have n1_ := Aside0.mk (zl (by repeat (first | (with_reducible first | exact HB.out | apply zc | apply za | apply zb | refine zd ?_ GE252.out) | exact HB.out)) hb); clear BK252; clear HB; have BK252 := n0_; have HB := n1_; clear n0_ n1_; (try clear hb); (try clear hb2); (try clear hk); (try clear hi)) | ((with_reducible refine zD (N := 3) rfl ?_); (try (refine qZ (by rfl) ?_; dsimp only)); refine zA ?hg (N := 3) ?hd (cs := #[.int .i64 0, .int .i64 0, .int .i64 0]) (t := 58) ?hr ?_; (case hd => rfl); (case hg => rfl); (case hr => first | (go_simp; done) | (go_simp; rfl)); intro gb257 hg w9 hbox hb; have n0_ := Aside0.mk (zj (g := gb252) (o := .cells #[.int .i64 a0_0, .slice A0_1 l0_1.length c0_1] 26 (0, 0)) (by (with_reducible repeat (first | refine ze ?_ _ | refine zg ?_ | refine zf ?_ _)); exact BK252.out) hb); have n1_ := Aside0.mk (zl (by repeat (first | (with_reducible first | exact HB.out | apply zc | apply za | apply zb | refine zd ?_ GE252.out) | exact HB.out)) hb); have n2_ := Aside0.mk (hbox); have n3_ := Aside0.mk ((by rw [hg]; exact (zk (by repeat (first | (with_reducible first | exact HB.out | apply zc | apply za | apply zb | refine zd ?_ GE252.out) | exact HB.out))) : w.heap.size ≤ gb257)); have n4_ := Aside0.mk ((by rw [hg]; exact (zk (by repeat (first | (with_reducible first | exact HB.out | apply zc | apply za | apply zb | refine zd ?_ GE252.out) | exact HB.out))) : w.heap.size ≤ gb257)); have n5_ := Aside0.mk ((by rw [hg]; exact Nat.ne_of_lt (zM (g := gb252) (o := .cells #[.int .i64 a0_0, .slice A0_1 l0_1.length c0_1] 26 (0, 0)) (by (with_reducible repeat (first | refine ze ?_ _ | refine zg ?_ | refine zf ?_ _)); exact BK252.out)) : gb252 ≠ gb257)); have n6_ := Aside0.mk ((by rw [hg]; exact Nat.ne_of_gt (zM (g := gb252) (o := .cells #[.int .i64 a0_0, .slice A0_1 l0_1.length c0_1] 26 (0, 0)) (by (with_reducible repeat (first | refine ze ?_ _ | refine zg ?_ | refine zf ?_ _)); exact BK252.out)) : gb257 ≠ gb252)); clear BK252; clear HB; have BK252 := n0_; have HB := n1_; have BK257 := n2_; have GW257 := n3_; have GE257 := n4_; have NB252_257 := n5_; have NB257_252 := n6_; clear n0_ n1_ n2_ n3_ n4_ n5_ n6_; clear hb hbox hg; have hnb10 := NB257_252.out; have hnc10 := NB252_257.out; have hcz11_0 : w9.cell? ⟨gb257, 0, none⟩ = some (.int .i64 0) := (zh BK257.out 0).trans rfl; have hcz11_1 : w9.cell? ⟨gb257, 1, none⟩ = some (.int .i64 0) := (zh BK257.out 1).trans rfl; have hcz11_2 : w9.cell? ⟨gb257, 2, none⟩ = some (.int .i64 0) := (zh BK257.out 2).trans rfl; have hfz11_0 := zi BK257.out 0; have hfz11_1 := zi BK257.out 1; have hfz11_2 := zi BK257.out 2; have hcz12_0 : w9.cell? ⟨gb252, 0, none⟩ = some (.int .i64 a0_0) := (zh BK252.out 0).trans rfl; have hcz12_1 : w9.cell? ⟨gb252, 1, none⟩ = some (.slice A0_1 l0_1.length c0_1) := (zh BK252.out 1).trans rfl; have hfz12_0 := zi BK252.out 0; have hfz12_1 := zi BK252.out 1) | ((with_reducible refine zo (f := 67) rfl ?_); refine zL (some 14) rfl rfl Try.func67 (by kernel_rfl) rfl #[.int .i64 a0_0, .slice A0_1 l0_1.length c0_1] rfl (by (try simp only [List.map_toArray, List.map_cons, List.map_nil]); first | done | rfl | (simp only [List.length_drop, List.length_take]; rfl)) ?_; (with_reducible refine (zY.calls k a0_0 _ _ l0_1 true _ ?side1 ?side2 A3.out).mono ?_); (case side1 => exact Kd.zG HR0_1.out (by repeat (first | (with_reducible first | exact HB.out | apply zc | apply za | apply zb | refine zd ?_ GE252.out | refine zd ?_ GE257.out) | exact HB.out))); (case side2 => exact HC0_1.out); rintro e w' ⟨rfl, ⟨nd, rfl⟩⟩; refine ⟨_, rfl, ?_⟩))
   go_ret
   exact ⟨by first | rfl | (simp [zt, zu] <;> rfl) | (simp [*, zt, zu] <;> rfl), by repeat (first | (with_reducible first | exact HB.out | apply zc | apply za | apply zb | refine zd ?_ GE252.out | refine zd ?_ GE257.out) | exact HB.out)⟩
  ·rw [if_neg c5] at H
   have c5b0 : decide (0 < (l0_1.length : Int)) = false := decide_eq_false c5
   have c5b1 : decide (0 < l0_1.length) = false := decide_eq_false (by omega)
   clear c5
   obtain rfl := Option.some.inj H
   go_enter Try.func48, Try.ntmps48
   go_wp2_with (first | ((with_reducible refine zD (N := 1) rfl ?_); (try (refine qZ (by rfl) ?_; dsimp only)); refine zA ?hg (N := 1) ?hd (cs := #[.int .i64 a0_0, .slice A0_1 l0_1.length c0_1]) (t := 26) ?hr ?_; (case hd => rfl); (case hg => rfl); (case hr => first | (go_simp; done) | (go_simp; rfl)); intro gb252 hg w13 hbox hb; have n0_ := Aside0.mk (zl (by repeat (first | (with_reducible first | exact HB.out | apply zc | apply za | apply zb) | exact HB.out)) hb); have n1_ := Aside0.mk (hbox); have n2_ := Aside0.mk ((by rw [hg]; exact (zk (by repeat (first | (with_reducible first | exact HB.out | apply zc | apply za | apply zb) | exact HB.out))) : w.heap.size ≤ gb252)); have n3_ := Aside0.mk ((by rw [hg]; exact (zk (by repeat (first | (with_reducible first | exact HB.out | apply zc | apply za | apply zb) | exact HB.out))) : w.heap.size ≤ gb252)); clear HB; have HB := n0_; have BK252 := n1_; have GW252 := n2_; have GE252 := n3_; clear n0_ n1_ n2_ n3_; clear hb hbox hg; have hcz14_0 : w13.cell? ⟨gb252, 0, none⟩ = some (.int .i64 a0_0) := (zh BK252.out 0).trans rfl; have hcz14_1 : w13.cell? ⟨gb252, 1, none⟩ = some (.slice A0_1 l0_1.length c0_1) := (zh BK252.out 1).trans rfl; have hfz14_0 := zi BK252.out 0; have hfz14_1 := zi BK252.out 1) | ((with_reducible refine zo (f := 66) rfl ?_); refine zL (some 7) rfl rfl Try.func66 (by kernel_rfl) rfl #[.agg #[.int .i64 a0_0, .slice A0_1 l0_1.length c0_1]] rfl (by (try simp only [List.map_toArray, List.map_cons, List.map_nil]); first | done | rfl | (simp only [List.length_drop, List.length_take]; rfl)) ?_; (with_reducible refine (zB.calls k a0_0 _ _ l0_1 t253 t254 t255 t256 _ ?side1 ?side2 A2.out).mono ?_); (case side1 => repeat (first | exact (Kd.zG HR0_1.out HB.out) | (with_reducible refine Kd.zI ?_ _) | (with_reducible refine Kd.zH ?_ _) | (with_reducible refine Kd.zP ?_))); (case side2 => exact HC0_1.out); rintro e w15 ⟨rfl, hb⟩; refine ⟨_, rfl, ?_⟩; have n0_ := Aside0.mk (zj (g := gb252) (o := .cells #[.int .i64 a0_0, .slice A0_1 l0_1.length c0_1] 26 (0, 0)) (by (with_reducible repeat (first | refine ze ?_ _ | refine zg ?_ | refine zf ?_ _)); exact BK252.out) hb); have n1_ := Aside0.mk (zl (by repeat (first | (with_reducible first | exact HB.out | apply zc | apply za | apply zb | refine zd ?_ GE252.out) | exact HB.out)) hb); clear BK252; clear HB; have BK252 := n0_; have HB := n1_; clear n0_ n1_; (try clear hb); (try clear hb2); (try clear hk); (try clear hi)) | ((with_reducible refine zD (N := 3) rfl ?_); (try (refine qZ (by rfl) ?_; dsimp only)); refine zA ?hg (N := 3) ?hd (cs := #[.int .i64 0, .int .i64 0, .int .i64 0]) (t := 58) ?hr ?_; (case hd => rfl); (case hg => rfl); (case hr => first | (go_simp; done) | (go_simp; rfl)); intro gb257 hg w16 hbox hb; have n0_ := Aside0.mk (zj (g := gb252) (o := .cells #[.int .i64 a0_0, .slice A0_1 l0_1.length c0_1] 26 (0, 0)) (by (with_reducible repeat (first | refine ze ?_ _ | refine zg ?_ | refine zf ?_ _)); exact BK252.out) hb); have n1_ := Aside0.mk (zl (by repeat (first | (with_reducible first | exact HB.out | apply zc | apply za | apply zb | refine zd ?_ GE252.out) | exact HB.out)) hb); have n2_ := Aside0.mk (hbox); have n3_ := Aside0.mk ((by rw [hg]; exact (zk (by repeat (first | (with_reducible first | exact HB.out | apply zc | apply za | apply zb | refine zd ?_ GE252.out) | exact HB.out))) : w.heap.size ≤ gb257)); have n4_ := Aside0.mk ((by rw [hg]; exact (zk (by repeat (first | (with_reducible first | exact HB.out | apply zc | apply za | apply zb | refine zd ?_ GE252.out) | exact HB.out))) : w.heap.size ≤ gb257)); have n5_ := Aside0.mk ((by rw [hg]; exact Nat.ne_of_lt (zM (g := gb252) (o := .cells #[.int .i64 a0_0, .slice A0_1 l0_1.length c0_1] 26 (0, 0)) (by (with_reducible repeat (first | refine ze ?_ _ | refine zg ?_ | refine zf ?_ _)); exact BK252.out)) : gb252 ≠ gb257)); have n6_ := Aside0.mk ((by rw [hg]; exact Nat.ne_of_gt (zM (g := gb252) (o := .cells #[.int .i64 a0_0, .slice A0_1 l0_1.length c0_1] 26 (0, 0)) (by (with_reducible repeat (first | refine ze ?_ _ | refine zg ?_ | refine zf ?_ _)); exact BK252.out)) : gb257 ≠ gb252)); clear BK252; clear HB; have BK252 := n0_; have HB := n1_; have BK257 := n2_; have GW257 := n3_; have GE257 := n4_; have NB252_257 := n5_; have NB257_252 := n6_; clear n0_ n1_ n2_ n3_ n4_ n5_ n6_; clear hb hbox hg; have hnb17 := NB257_252.out; have hnc17 := NB252_257.out; have hcz18_0 : w16.cell? ⟨gb257, 0, none⟩ = some (.int .i64 0) := (zh BK257.out 0).trans rfl; have hcz18_1 : w16.cell? ⟨gb257, 1, none⟩ = some (.int .i64 0) := (zh BK257.out 1).trans rfl; have hcz18_2 : w16.cell? ⟨gb257, 2, none⟩ = some (.int .i64 0) := (zh BK257.out 2).trans rfl; have hfz18_0 := zi BK257.out 0; have hfz18_1 := zi BK257.out 1; have hfz18_2 := zi BK257.out 2; have hcz19_0 : w16.cell? ⟨gb252, 0, none⟩ = some (.int .i64 a0_0) := (zh BK252.out 0).trans rfl; have hcz19_1 : w16.cell? ⟨gb252, 1, none⟩ = some (.slice A0_1 l0_1.length c0_1) := (zh BK252.out 1).trans rfl; have hfz19_0 := zi BK252.out 0; have hfz19_1 := zi BK252.out 1) | ((with_reducible refine zo (f := 67) rfl ?_); refine zL (some 14) rfl rfl Try.func67 (by kernel_rfl) rfl #[.int .i64 a0_0, .slice A0_1 l0_1.length c0_1] rfl (by (try simp only [List.map_toArray, List.map_cons, List.map_nil]); first | done | rfl | (simp only [List.length_drop, List.length_take]; rfl)) ?_; (with_reducible refine (zY.calls k a0_0 _ _ l0_1 true _ ?side1 ?side2 A3.out).mono ?_); (case side1 => exact Kd.zG HR0_1.out (by repeat (first | (with_reducible first | exact HB.out | apply zc | apply za | apply zb | refine zd ?_ GE252.out | refine zd ?_ GE257.out) | exact HB.out))); (case side2 => exact HC0_1.out); rintro e w' ⟨rfl, ⟨nd, rfl⟩⟩; refine ⟨_, rfl, ?_⟩))
   go_ret
   exact ⟨by first | rfl | (simp [zt, zu] <;> rfl) | (simp [*, zt, zu] <;> rfl), by repeat (first | (with_reducible first | exact HB.out | apply zc | apply za | apply zb | refine zd ?_ GE252.out | refine zd ?_ GE257.out) | exact HB.out)⟩
 ·replace c4 := Bool.eq_false_iff.mpr c4
  subst c4
  have H1 : (some false) = some r := by rw [if_neg (show ¬ (false = true) by decide)] at H; exact H
  clear H
  have H := H1
  clear H1
  obtain rfl := Option.some.inj H
  go_enter Try.func48, Try.ntmps48
  go_wp2_with (first | ((with_reducible refine zD (N := 1) rfl ?_); (try (refine qZ (by rfl) ?_; dsimp only)); refine zA ?hg (N := 1) ?hd (cs := #[.int .i64 a0_0, .slice A0_1 l0_1.length c0_1]) (t := 26) ?hr ?_; (case hd => rfl); (case hg => rfl); (case hr => first | (go_simp; done) | (go_simp; rfl)); intro gb252 hg w20 hbox hb; have n0_ := Aside0.mk (zl (by repeat (first | (with_reducible first | exact HB.out | apply zc | apply za | apply zb) | exact HB.out)) hb); have n1_ := Aside0.mk (hbox); have n2_ := Aside0.mk ((by rw [hg]; exact (zk (by repeat (first | (with_reducible first | exact HB.out | apply zc | apply za | apply zb) | exact HB.out))) : w.heap.size ≤ gb252)); have n3_ := Aside0.mk ((by rw [hg]; exact (zk (by repeat (first | (with_reducible first | exact HB.out | apply zc | apply za | apply zb) | exact HB.out))) : w.heap.size ≤ gb252)); clear HB; have HB := n0_; have BK252 := n1_; have GW252 := n2_; have GE252 := n3_; clear n0_ n1_ n2_ n3_; clear hb hbox hg; have hcz21_0 : w20.cell? ⟨gb252, 0, none⟩ = some (.int .i64 a0_0) := (zh BK252.out 0).trans rfl; have hcz21_1 : w20.cell? ⟨gb252, 1, none⟩ = some (.slice A0_1 l0_1.length c0_1) := (zh BK252.out 1).trans rfl; have hfz21_0 := zi BK252.out 0; have hfz21_1 := zi BK252.out 1) | ((with_reducible refine zo (f := 66) rfl ?_); refine zL (some 7) rfl rfl Try.func66 (by kernel_rfl) rfl #[.agg #[.int .i64 a0_0, .slice A0_1 l0_1.length c0_1]] rfl (by (try simp only [List.map_toArray, List.map_cons, List.map_nil]); first | done | rfl | (simp only [List.length_drop, List.length_take]; rfl)) ?_; (with_reducible refine (zB.calls k a0_0 _ _ l0_1 t253 t254 t255 t256 _ ?side1 ?side2 A2.out).mono ?_); (case side1 => repeat (first | exact (Kd.zG HR0_1.out HB.out) | (with_reducible refine Kd.zI ?_ _) | (with_reducible refine Kd.zH ?_ _) | (with_reducible refine Kd.zP ?_))); (case side2 => exact HC0_1.out); rintro e w22 ⟨rfl, hb⟩; refine ⟨_, rfl, ?_⟩; have n0_ := Aside0.mk (zj (g := gb252) (o := .cells #[.int .i64 a0_0, .slice A0_1 l0_1.length c0_1] 26 (0, 0)) (by (with_reducible repeat (first | refine ze ?_ _ | refine zg ?_ | refine zf ?_ _)); exact BK252.out) hb); have n1_ := Aside0.mk (zl (by repeat (first | (with_reducible first | exact HB.out | apply zc | apply za | apply zb | refine zd ?_ GE252.out) | exact HB.out)) hb); clear BK252; clear HB; have BK252 := n0_; have HB := n1_; clear n0_ n1_; (try clear hb); (try clear hb2); (try clear hk); (try clear hi)) | ((with_reducible refine zD (N := 3) rfl ?_); (try (refine qZ (by rfl) ?_; dsimp only)); refine zA ?hg (N := 3) ?hd (cs := #[.int .i64 0, .int .i64 0, .int .i64 0]) (t := 58) ?hr ?_; (case hd => rfl); (case hg => rfl); (case hr => first | (go_simp; done) | (go_simp; rfl)); intro gb257 hg w23 hbox hb; have n0_ := Aside0.mk (zj (g := gb252) (o := .cells #[.int .i64 a0_0, .slice A0_1 l0_1.length c0_1] 26 (0, 0)) (by (with_reducible repeat (first | refine ze ?_ _ | refine zg ?_ | refine zf ?_ _)); exact BK252.out) hb); have n1_ := Aside0.mk (zl (by repeat (first | (with_reducible first | exact HB.out | apply zc | apply za | apply zb | refine zd ?_ GE252.out) | exact HB.out)) hb); have n2_ := Aside0.mk (hbox); have n3_ := Aside0.mk ((by rw [hg]; exact (zk (by repeat (first | (with_reducible first | exact HB.out | apply zc | apply za | apply zb | refine zd ?_ GE252.out) | exact HB.out))) : w.heap.size ≤ gb257)); have n4_ := Aside0.mk ((by rw [hg]; exact (zk (by repeat (first | (with_reducible first | exact HB.out | apply zc | apply za | apply zb | refine zd ?_ GE252.out) | exact HB.out))) : w.heap.size ≤ gb257)); have n5_ := Aside0.mk ((by rw [hg]; exact Nat.ne_of_lt (zM (g := gb252) (o := .cells #[.int .i64 a0_0, .slice A0_1 l0_1.length c0_1] 26 (0, 0)) (by (with_reducible repeat (first | refine ze ?_ _ | refine zg ?_ | refine zf ?_ _)); exact BK252.out)) : gb252 ≠ gb257)); have n6_ := Aside0.mk ((by rw [hg]; exact Nat.ne_of_gt (zM (g := gb252) (o := .cells #[.int .i64 a0_0, .slice A0_1 l0_1.length c0_1] 26 (0, 0)) (by (with_reducible repeat (first | refine ze ?_ _ | refine zg ?_ | refine zf ?_ _)); exact BK252.out)) : gb257 ≠ gb252)); clear BK252; clear HB; have BK252 := n0_; have HB := n1_; have BK257 := n2_; have GW257 := n3_; have GE257 := n4_; have NB252_257 := n5_; have NB257_252 := n6_; clear n0_ n1_ n2_ n3_ n4_ n5_ n6_; clear hb hbox hg; have hnb24 := NB257_252.out; have hnc24 := NB252_257.out; have hcz25_0 : w23.cell? ⟨gb257, 0, none⟩ = some (.int .i64 0) := (zh BK257.out 0).trans rfl; have hcz25_1 : w23.cell? ⟨gb257, 1, none⟩ = some (.int .i64 0) := (zh BK257.out 1).trans rfl; have hcz25_2 : w23.cell? ⟨gb257, 2, none⟩ = some (.int .i64 0) := (zh BK257.out 2).trans rfl; have hfz25_0 := zi BK257.out 0; have hfz25_1 := zi BK257.out 1; have hfz25_2 := zi BK257.out 2; have hcz26_0 : w23.cell? ⟨gb252, 0, none⟩ = some (.int .i64 a0_0) := (zh BK252.out 0).trans rfl; have hcz26_1 : w23.cell? ⟨gb252, 1, none⟩ = some (.slice A0_1 l0_1.length c0_1) := (zh BK252.out 1).trans rfl; have hfz26_0 := zi BK252.out 0; have hfz26_1 := zi BK252.out 1) | ((with_reducible refine zo (f := 67) rfl ?_); refine zL (some 14) rfl rfl Try.func67 (by kernel_rfl) rfl #[.int .i64 a0_0, .slice A0_1 l0_1.length c0_1] rfl (by (try simp only [List.map_toArray, List.map_cons, List.map_nil]); first | done | rfl | (simp only [List.length_drop, List.length_take]; rfl)) ?_; (with_reducible refine (zY.calls k a0_0 _ _ l0_1 false _ ?side1 ?side2 A3.out).mono ?_); (case side1 => exact Kd.zG HR0_1.out (by repeat (first | (with_reducible first | exact HB.out | apply zc | apply za | apply zb | refine zd ?_ GE252.out | refine zd ?_ GE257.out) | exact HB.out))); (case side2 => exact HC0_1.out); rintro e w' ⟨rfl, ⟨nd, rfl⟩⟩; refine ⟨_, rfl, ?_⟩))
  go_ret
  exact ⟨by first | rfl | (simp [zt, zu] <;> rfl) | (simp [*, zt, zu] <;> rfl), by repeat (first | (with_reducible first | exact HB.out | apply zc | apply za | apply zb | refine zd ?_ GE252.out | refine zd ?_ GE257.out) | exact HB.out)⟩

end Go.Proofs.Ytkmcefhchhahhaa.F
end
section
namespace Go.Proofs.Ytkmcefhchhahhaa.F
open Go.RowKit Go.Proofs.YtkmcefhchhahhaaW.PrintWords Go.Proofs.YtkmcefhchhahhaaW.PrintLast Go.Proofs.YtkmcefhchhahhaaW.PrintMore
attribute [local go_sem] jd q8 ji jj qP qN jc q4   -- for this text's walks alone
set_option linter.unusedVariables false
set_option linter.unusedSimpArgs false

def jv.f (a0 : Int) : Option (Int) := (jF.f a0).bind fun t263 => (some t263)
theorem jv.calls (a0 : Int) (r : Int) (w : World) (h : jv.f a0 = some r) :
  Calls Try.prog 69 #[.int .u64 a0] w fun e w' => e = .returned (.int .i64 r) ∧ zC w w' := by
 have H : ((jF.f a0).bind fun t263 => (some t263)) = some r := h
 clear h
 replace H := Option.bind_eq_some_iff.mp H
 obtain ⟨t263, A20, H⟩ := H
 replace H : (some t263) = some r := H
 have A2 := Aside0.mk A20
 clear A20
 obtain rfl := Option.some.inj H
 go_enter Try.func69, Try.ntmps69
 go_wp2_with (first | ((with_reducible refine zo (f := 83) rfl ?_); refine zL (some 7) rfl rfl Try.func83 (by kernel_rfl) rfl #[.int .u64 a0] rfl (by (try simp only [List.map_toArray, List.map_cons, List.map_nil]); first | done | rfl | (simp only [List.length_drop, List.length_take]; rfl)) ?_; (with_reducible refine (jF.calls a0 t263 _ A2.out).mono ?_); rintro e w' ⟨rfl, ⟨nd, rfl⟩⟩; refine ⟨_, rfl, ?_⟩))
 go_ret
 exact ⟨by first | rfl | (simp; done) | (simp [*]; done), by repeat (first | exact zC.refl _ | apply zC.step)⟩

def qv.f (a0 : Int) : Option (Int) := (jq.f a0).bind fun t264 => (if t264 = true then ((jv.f (IntKind.u64.wrap (a0))).bind fun t265 => (some t265)) else (some 0))
theorem qv.calls (a0 : Int) (r : Int) (w : World) (h : qv.f a0 = some r) :
  Calls Try.prog 49 #[.int .i64 a0] w fun e w' => e = .returned (.int .i64 r) ∧ zC w w' := by
 have H : ((jq.f a0).bind fun t264 => (if t264 = true then ((jv.f (IntKind.u64.wrap (a0))).bind fun t265 => (some t265)) else (some 0))) = some r := h
 clear h
 replace H := Option.bind_eq_some_iff.mp H
 obtain ⟨t264, A20, H⟩ := H
 replace H : (if t264 = true then ((jv.f (IntKind.u64.wrap (a0))).bind fun t265 => (some t265)) else (some 0)) = some r := H
 have A2 := Aside0.mk A20
 clear A20
 by_cases c3 : t264 = true
 ·subst c3
  have H1 : ((jv.f (IntKind.u64.wrap (a0))).bind fun t265 => (some t265)) = some r := by rw [if_pos rfl] at H; exact H
  clear H
  have H := H1
  clear H1
  replace H := Option.bind_eq_some_iff.mp H
  obtain ⟨t265, A40, H⟩ := H
  replace H : (some t265) = some r := H
  have A4 := Aside0.mk A40
  clear A40
  obtain rfl := Option.some.inj H
  go_enter Try.func49, Try.ntmps49
  go_wp2_with (first | ((with_reducible refine zo (f := 68) rfl ?_); refine zL (some 4) rfl rfl Try.func68 (by kernel_rfl) rfl #[.int .i64 a0] rfl (by (try simp only [List.map_toArray, List.map_cons, List.map_nil]); first | done | rfl | (simp only [List.length_drop, List.length_take]; rfl)) ?_; (with_reducible refine (jq.calls a0 true _ A2.out).mono ?_); rintro e w' ⟨rfl, ⟨nd, rfl⟩⟩; refine ⟨_, rfl, ?_⟩) | ((with_reducible refine zo (f := 69) rfl ?_); refine zL (some 8) rfl rfl Try.func69 (by kernel_rfl) rfl #[.int .u64 (IntKind.u64.wrap (a0))] rfl (by (try simp only [List.map_toArray, List.map_cons, List.map_nil]); first | done | rfl | (simp only [List.length_drop, List.length_take]; rfl)) ?_; (with_reducible refine (jv.calls (IntKind.u64.wrap (a0)) t265 _ A4.out).mono ?_); rintro e w' ⟨rfl, ⟨nd, rfl⟩⟩; refine ⟨_, rfl, ?_⟩))
  go_ret
  exact ⟨by first | rfl | (simp; done) | (simp [*]; done), by repeat (first | exact zC.refl _ | apply zC.step)⟩
 ·replace c3 := Bool.eq_false_iff.mpr c3
  subst c3
  have H1 : (some 0) = some r := by rw [if_neg (show ¬ (false = true) by decide)] at H; exact H
  clear H
  have H := H1
  clear H1
  obtain rfl := Option.some.inj H
  go_enter Try.func49, Try.ntmps49
  go_wp2_with (first | ((with_reducible refine zo (f := 68) rfl ?_); refine zL (some 4) rfl rfl Try.func68 (by kernel_rfl) rfl #[.int .i64 a0] rfl (by (try simp only [List.map_toArray, List.map_cons, List.map_nil]); first | done | rfl | (simp only [List.length_drop, List.length_take]; rfl)) ?_; (with_reducible refine (jq.calls a0 false _ A2.out).mono ?_); rintro e w' ⟨rfl, ⟨nd, rfl⟩⟩; refine ⟨_, rfl, ?_⟩))
  go_ret
  exact ⟨by first | rfl | (simp; done) | (simp [*]; done), by repeat (first | exact zC.refl _ | apply zC.step)⟩

def qi.l0 : Nat → Int → Int → List Int → Int → Int → Option (Int)
 | 0, _, _, _, _, _ => none
 | k + 1, x1, x5, x9, x10, x11 => if x11 < x10 then (if 0 ≤ x11 then (if x11 < (x9.length : Int) then ((qv.f (Go.bits .and .i64 x1 (rd x9 x11))).bind fun t268 => (qi.l0 k x1 (mx x5 t268) x9 x10 (wrap64 (x11 + 1)))) else (none)) else (none)) else (some x5)
def qi.f (k : Nat) (a0_0 : Int) (l0_1 : List Int) (a1 : Int) : Option (Int) := qi.l0 k a1 0 l0_1 (l0_1.length : Int) 0
theorem qi.calls (k : Nat) (a0_0 : Int) (A0_1 : Option Addr) (c0_1 : Nat) (l0_1 : List Int) (a1 : Int) (r : Int) (w : World) (hr0_1 : Kd.C (Kd.int .i64) w A0_1 l0_1.length l0_1) (hc0_1 : l0_1.length ≤ c0_1) (h : qi.f k a0_0 l0_1 a1 = some r) :
  Calls Try.prog 59 #[.agg #[.int .i64 a0_0, .slice A0_1 l0_1.length c0_1], .int .i64 a1] w fun e w' => e = .returned (.int .i64 r) ∧ Below w.heap.size w w' := by
 have hu26 := Try.underlying26
 have HR0_1 := Aside0.mk hr0_1
 have HC0_1 := Aside0.mk hc0_1
 clear hr0_1 hc0_1
 have HB := Aside0.mk (Below.refl w.heap.size w)
 have H : (qi.l0 k a1 0 l0_1 (l0_1.length : Int) 0) = some r := h
 clear h
 have H' := Aside0.mk H
 clear H
 go_enter Try.func59, Try.ntmps59
 go_wp2_with (first | ((with_reducible refine zD (N := 2) rfl ?_); refine zA ?hg (N := 2) ?hd (cs := #[.int .i64 a0_0, .slice A0_1 l0_1.length c0_1]) (t := 26) ?hr ?_; (case hd => rfl); (case hg => rfl); (case hr => first | (go_simp; done) | (go_simp; rfl)); intro gb266 hg w3 hbox hb; have n0_ := Aside0.mk (zl (by repeat (first | (with_reducible first | exact HB.out | apply zc | apply za | apply zb) | exact HB.out)) hb); have n1_ := Aside0.mk (hbox); have n2_ := Aside0.mk ((by rw [hg]; exact (zk (by repeat (first | (with_reducible first | exact HB.out | apply zc | apply za | apply zb) | exact HB.out))) : w.heap.size ≤ gb266)); have n3_ := Aside0.mk ((by rw [hg]; exact (zk (by repeat (first | (with_reducible first | exact HB.out | apply zc | apply za | apply zb) | exact HB.out))) : w.heap.size ≤ gb266)); clear HB; have HB := n0_; have BK266 := n1_; have GW266 := n2_; have GE266 := n3_; clear n0_ n1_ n2_ n3_; clear hb hbox hg; have hcz4_0 : w3.cell? ⟨gb266, 0, none⟩ = some (.int .i64 a0_0) := (zh BK266.out 0).trans rfl; have hcz4_1 : w3.cell? ⟨gb266, 1, none⟩ = some (.slice A0_1 l0_1.length c0_1) := (zh BK266.out 1).trans rfl; have hfz4_0 := zi BK266.out 0; have hfz4_1 := zi BK266.out 1))
 go_loopg [5, 11] k (fun kq v5 v11 w' => ∃ (x5_1 : Int) (x11_1 : Int), v5 = .int .i64 x5_1 ∧ v11 = .int .i64 x11_1 ∧ Aside0 (qi.l0 kq a1 x5_1 l0_1 (l0_1.length : Int) x11_1 = some r) ∧ Aside0 (kq ≤ k) ∧ Aside0 (w'.heap[gb266]? = some (.cells #[.int .i64 a0_0, (.slice A0_1 l0_1.length c0_1)] 26 (0, 0))) ∧ Aside0 (Below w.heap.size w w'))
 case atStart => exact ⟨(0), (0), (by first | rfl | (simp; done) | (simp [*]; done)), (by first | rfl | (simp; done) | (simp [*]; done)), H', ⟨Nat.le_refl _⟩, ⟨by (with_reducible repeat (first | refine ze ?_ _ | refine zg ?_ | refine zf ?_ _)); exact BK266.out⟩, ⟨by repeat (first | (with_reducible first | exact HB.out | apply zc | apply za | apply zb | refine zd ?_ GE266.out) | exact HB.out)⟩⟩
 case round =>
  clear H'
  try clear p2
  try clear hcz4_0
  try clear hcz4_1
  try clear hfz4_0
  try clear hfz4_1
  obtain ⟨x5_1, x11_1, rfl, rfl, HA, HK1, BK266, HB⟩ := hrel
  cases gk with
  | zero => exact absurd HA.out (by simp [qi.l0])
  | succ k1 =>
   have H := HA.out
   clear HA
   simp only [qi.l0] at H
   by_cases c5 : x11_1 < (l0_1.length : Int)
   ·rw [if_pos c5] at H
    have c5b0 : decide (x11_1 < (l0_1.length : Int)) = true := decide_eq_true c5
    clear c5
    by_cases c6 : 0 ≤ x11_1
    ·rw [if_pos c6] at H
     have c6b0 : decide (0 ≤ x11_1) = true := decide_eq_true c6
     clear c6
     by_cases c7 : x11_1 < (l0_1.length : Int)
     ·rw [if_pos c7] at H
      have c7b0 : decide (x11_1 < (l0_1.length : Int)) = true := decide_eq_true c7
      clear c7
      replace H := Option.bind_eq_some_iff.mp H
      obtain ⟨t268, A80, H⟩ := H
      replace H : (qi.l0 k1 a1 (mx x5_1 t268) l0_1 (l0_1.length : Int) (wrap64 (x11_1 + 1))) = some r := H
      have A8 := Aside0.mk A80
      clear A80
      obtain ⟨ji9, hji9⟩ : ∃ j_ : Int, (mx x5_1 t268) = j_ := ⟨_, rfl⟩
      replace H : (qi.l0 k1 a1 ji9 l0_1 (l0_1.length : Int) (wrap64 (x11_1 + 1))) = some r := by first | (rw [hji9] at H; exact H) | (simp only [hji9] at H ⊢; exact H)
      (try rw [hji9] at A8)
      have hji9_ : (if x5_1 < t268 then t268 else x5_1) = ji9 := hji9
      have H' := Aside0.mk H
      clear H
      have p267 : 0 ≤ (x11_1 : Int) := of_decide_eq_true (by first | (with_reducible assumption) | assumption)
      have q267 : x11_1 < (l0_1.length : Int) := of_decide_eq_true (by first | (with_reducible assumption) | assumption)
      obtain ⟨ad267, e267, hx267_0⟩ := Kd.qd HR0_1.out x11_1 p267 q267
      cases e267
      replace hx267_0 := (HB.out.cell (World.block_lt_of_cell? w _ hx267_0)).trans hx267_0
      replace p267 := eq_true p267
      replace q267 := eq_true q267
      go_wp2_with (first | ((with_reducible refine zo (f := 49) rfl ?_); refine zL (some 19) rfl rfl Try.func49 (by kernel_rfl) rfl #[.int .i64 (Go.bits .and .i64 a1 (rd l0_1 x11_1))] rfl (by (try simp only [List.map_toArray, List.map_cons, List.map_nil]); first | done | rfl | (simp only [List.length_drop, List.length_take]; rfl)) ?_; (with_reducible refine (qv.calls (Go.bits .and .i64 a1 (rd l0_1 x11_1)) t268 _ A8.out).mono ?_); rintro e w' ⟨rfl, ⟨nd, rfl⟩⟩; refine ⟨_, rfl, ?_⟩))
      go_roundg k1
      case measure => have := HK1.out; omega
      case rel => exact ⟨(ji9), (wrap64 (x11_1 + 1)), (by first | rfl | (simp; done) | (simp only [← hji9] <;> (first | rfl | simp)) | (simp [*]; done)), (by first | rfl | (simp; done) | (simp [*]; done)), H', ⟨by have := HK1.out; omega⟩, ⟨by (with_reducible repeat (first | refine ze ?_ _ | refine zg ?_ | refine zf ?_ _)); exact BK266.out⟩, ⟨by repeat (first | (with_reducible first | exact HB.out | apply zc | apply za | apply zb | refine zd ?_ GE266.out) | exact HB.out)⟩⟩
     ·rw [if_neg c7] at H
      exact absurd H (by simp)
    ·rw [if_neg c6] at H
     exact absurd H (by simp)
   ·rw [if_neg c5] at H
    have c5b0 : decide (x11_1 < (l0_1.length : Int)) = false := decide_eq_false c5
    clear c5
    obtain rfl := Option.some.inj H
    go_wp2
    go_ret
    exact ⟨by first | rfl | (simp [zt, zu] <;> rfl) | (simp [*, zt, zu] <;> rfl), by repeat (first | (with_reducible first | exact HB.out | apply zc | apply za | apply zb | refine zd ?_ GE266.out) | exact HB.out)⟩

def zJ.l0 : Nat → Int → Int → Int → Int → Int → Int → List Int → Int → List Int → Option (Int × List Int)
 | 0, _, _, _, _, _, _, _, _, _ => none
 | k + 1, x1, x2, x7, x8, x10, x278000, x278001, x283000, x283001 => (ql.f x283000).bind fun t283 => (if x10 ≤ t283 then ((qv.f x10).bind fun t284 => (if t284 = x8 then ((qf.f k x10 x1).bind fun t285 => ((qi.f k x278000 x278001 (Go.bits .or .i64 t285 x2)).bind fun t286 => (if (wrap64 (t286 - x7)) = x8 then (if x283001.length < 17592186044416 then (zJ.l0 k x1 x2 x7 x8 (wrap64 (x10 + 1)) x278000 x278001 x283000 (x283001 ++ [x10])) else (none)) else (zJ.l0 k x1 x2 x7 x8 (wrap64 (x10 + 1)) x278000 x278001 x283000 x283001)))) else (zJ.l0 k x1 x2 x7 x8 (wrap64 (x10 + 1)) x278000 x278001 x283000 x283001))) else (some (x283000, x283001)))
def zJ.f (k : Nat) (a0_0 : Int) (l0_1 : List Int) (a1 : Int) (a2 : Int) : Option (Int × List Int) := (qi.f k a0_0 l0_1 a2).bind fun t279 => ((qi.f k a0_0 l0_1 (Go.bits .or .i64 a1 a2)).bind fun t280 => ((qv.f a1).bind fun t281 => (zJ.l0 k a1 a2 t279 (wrap64 (t280 - t279)) 0 a0_0 l0_1 t281 ([] : List Int))))
def zJ.T7 : Bool × List (List Nat × List Nat) := (true, [([], []), ([0], [0]), ([], []), ([1, 2], [1, 2]), ([3, 1], [3]), ([4], [4]), ([4], [4]), ([4], [4]), ([6, 7, 4, 4], [4, 6, 7]), ([4], [4]), ([8, 9, 4], [4, 8, 9]), ([5, 10, 8, 4], [4, 5, 10]), ([4], [4]), ([11, 12, 4], [4, 11, 12]), ([4], [4]), ([13, 14, 4], [4, 13, 14]), ([4, 15], [4, 15])])
def zJ.B7 : List Nat := [0, 1, 0, 7, 15, 31, 31, 31, 223, 31, 991, 2047, 31, 8191, 31, 32767, 65535]
theorem zJ.zaC : j9 .any (opsOf Try.f39 7) = zJ.T7 := by kernel_rfl
theorem zJ.Yz : jM zJ.T7.2 zJ.B7 = true := by kernel_rfl
theorem zJ.calls (k : Nat) (a0_0 : Int) (A0_1 : Option Addr) (c0_1 : Nat) (l0_1 : List Int) (a1 : Int) (a2 : Int) (r1 : Int) (r2 : List Int) (w : World) (hr0_1 : Kd.C (Kd.int .i64) w A0_1 l0_1.length l0_1) (hc0_1 : l0_1.length ≤ c0_1) (h : zJ.f k a0_0 l0_1 a1 a2 = some (r1, r2)) :
  Calls Try.prog 39 #[.agg #[.int .i64 a0_0, .slice A0_1 l0_1.length c0_1], .int .i64 a1, .int .i64 a2] w fun e w' => ∃ v1_ : Value, e = .returned (.agg #[.int .i64 r1, v1_]) ∧ Kd.R (Kd.int .i64) 3 w' w.heap.size (fun _ => True) v1_ r2 ∧ Below w.heap.size w w' := by
 have hu26 := Try.underlying26
 have HR0_1 := Aside0.mk hr0_1
 have HC0_1 := Aside0.mk hc0_1
 clear hr0_1 hc0_1
 have HB := Aside0.mk (Below.refl w.heap.size w)
 have H : ((qi.f k a0_0 l0_1 a2).bind fun t279 => ((qi.f k a0_0 l0_1 (Go.bits .or .i64 a1 a2)).bind fun t280 => ((qv.f a1).bind fun t281 => (zJ.l0 k a1 a2 t279 (wrap64 (t280 - t279)) 0 a0_0 l0_1 t281 ([] : List Int))))) = some (r1, r2) := h
 clear h
 replace H := Option.bind_eq_some_iff.mp H
 obtain ⟨t279, A40, H⟩ := H
 replace H : ((qi.f k a0_0 l0_1 (Go.bits .or .i64 a1 a2)).bind fun t280 => ((qv.f a1).bind fun t281 => (zJ.l0 k a1 a2 t279 (wrap64 (t280 - t279)) 0 a0_0 l0_1 t281 ([] : List Int)))) = some (r1, r2) := H
 have A4 := Aside0.mk A40
 clear A40
 replace H := Option.bind_eq_some_iff.mp H
 obtain ⟨t280, A50, H⟩ := H
 replace H : ((qv.f a1).bind fun t281 => (zJ.l0 k a1 a2 t279 (wrap64 (t280 - t279)) 0 a0_0 l0_1 t281 ([] : List Int))) = some (r1, r2) := H
 have A5 := Aside0.mk A50
 clear A50
 replace H := Option.bind_eq_some_iff.mp H
 obtain ⟨t281, A60, H⟩ := H
 replace H : (zJ.l0 k a1 a2 t279 (wrap64 (t280 - t279)) 0 a0_0 l0_1 t281 ([] : List Int)) = some (r1, r2) := H
 have A6 := Aside0.mk A60
 clear A60
 have H' := Aside0.mk H
 clear H
 go_enter Try.func39, Try.ntmps39
 go_wp2_with (first | ((with_reducible refine zD (N := 3) rfl ?_); refine zA ?hg (N := 3) ?hd (cs := #[.int .i64 a0_0, .slice A0_1 l0_1.length c0_1]) (t := 26) ?hr ?_; (case hd => rfl); (case hg => rfl); (case hr => first | (go_simp; done) | (go_simp; rfl)); intro gb277 hg w7 hbox hb; have n0_ := Aside0.mk (zl (by repeat (first | (with_reducible first | exact HB.out | apply zc | apply za | apply zb) | exact HB.out)) hb); have n1_ := Aside0.mk (hbox); have n2_ := Aside0.mk ((by rw [hg]; exact (zk (by repeat (first | (with_reducible first | exact HB.out | apply zc | apply za | apply zb) | exact HB.out))) : w.heap.size ≤ gb277)); have n3_ := Aside0.mk ((by rw [hg]; exact (zk (by repeat (first | (with_reducible first | exact HB.out | apply zc | apply za | apply zb) | exact HB.out))) : w.heap.size ≤ gb277)); clear HB; have HB := n0_; have BK277 := n1_; have GW277 := n2_; have GE277 := n3_; clear n0_ n1_ n2_ n3_; clear hb hbox hg) | ((with_reducible refine zD (N := 6) rfl ?_); refine zA ?hg (N := 6) ?hd (cs := #[.int .i64 0, .slice none 0 0]) (t := 26) ?hr ?_; (case hd => rfl); (case hg => rfl); (case hr => first | (go_simp; done) | (go_simp; rfl)); intro gb278 hg w8 hbox hb; have n0_ := Aside0.mk (zj (g := gb277) (o := .cells #[.int .i64 a0_0, .slice A0_1 l0_1.length c0_1] 26 (0, 0)) (by (with_reducible repeat (first | refine ze ?_ _ | refine zg ?_ | refine zf ?_ _)); exact BK277.out) hb); have n1_ := Aside0.mk (zl (by repeat (first | (with_reducible first | exact HB.out | apply zc | apply za | apply zb | refine zd ?_ GE277.out) | exact HB.out)) hb); have n2_ := Aside0.mk (hbox); have n3_ := Aside0.mk ((by rw [hg]; exact (zk (by repeat (first | (with_reducible first | exact HB.out | apply zc | apply za | apply zb | refine zd ?_ GE277.out) | exact HB.out))) : w.heap.size ≤ gb278)); have n4_ := Aside0.mk ((by rw [hg]; exact (zk (by repeat (first | (with_reducible first | exact HB.out | apply zc | apply za | apply zb | refine zd ?_ GE277.out) | exact HB.out))) : w.heap.size ≤ gb278)); have n5_ := Aside0.mk ((by rw [hg]; exact Nat.ne_of_lt (zM (g := gb277) (o := .cells #[.int .i64 a0_0, .slice A0_1 l0_1.length c0_1] 26 (0, 0)) (by (with_reducible repeat (first | refine ze ?_ _ | refine zg ?_ | refine zf ?_ _)); exact BK277.out)) : gb277 ≠ gb278)); have n6_ := Aside0.mk ((by rw [hg]; exact Nat.ne_of_gt (zM (g := gb277) (o := .cells #[.int .i64 a0_0, .slice A0_1 l0_1.length c0_1] 26 (0, 0)) (by (with_reducible repeat (first | refine ze ?_ _ | refine zg ?_ | refine zf ?_ _)); exact BK277.out)) : gb278 ≠ gb277)); clear BK277; clear HB; have BK277 := n0_; have HB := n1_; have BK278 := n2_; have GW278 := n3_; have GE278 := n4_; have NB277_278 := n5_; have NB278_277 := n6_; clear n0_ n1_ n2_ n3_ n4_ n5_ n6_; clear hb hbox hg; have hnb9 := NB277_278.out; have hnc9 := NB278_277.out; have hcz10_0 : w8.cell? ⟨gb277, 0, none⟩ = some (.int .i64 a0_0) := (zh BK277.out 0).trans rfl; have hcz10_1 : w8.cell? ⟨gb277, 1, none⟩ = some (.slice A0_1 l0_1.length c0_1) := (zh BK277.out 1).trans rfl; have hfz10_0 := zi BK277.out 0; have hfz10_1 := zi BK277.out 1) | ((with_reducible refine zo (f := 59) rfl ?_); refine zL (some 13) rfl rfl Try.func59 (by kernel_rfl) rfl #[.agg #[.int .i64 a0_0, .slice A0_1 l0_1.length c0_1], .int .i64 a2] rfl (by (try simp only [List.map_toArray, List.map_cons, List.map_nil]); first | done | rfl | (simp only [List.length_drop, List.length_take]; rfl)) ?_; (with_reducible refine (qi.calls k a0_0 _ _ l0_1 a2 t279 _ ?side1 ?side2 A4.out).mono ?_); (case side1 => repeat (first | exact (Kd.zG HR0_1.out HB.out) | (with_reducible refine Kd.zI ?_ _) | (with_reducible refine Kd.zH ?_ _) | (with_reducible refine Kd.zP ?_))); (case side2 => exact HC0_1.out); rintro e w11 ⟨rfl, hb⟩; refine ⟨_, rfl, ?_⟩; have n0_ := Aside0.mk (zj (g := gb277) (o := .cells #[.int .i64 a0_0, .slice A0_1 l0_1.length c0_1] 26 (0, 0)) (by (with_reducible repeat (first | refine ze ?_ _ | refine zg ?_ | refine zf ?_ _)); exact BK277.out) hb); have n1_ := Aside0.mk (zj (g := gb278) (o := .cells #[.int .i64 0, .slice none 0 0] 26 (0, 0)) (by (with_reducible repeat (first | refine ze ?_ _ | refine zg ?_ | refine zf ?_ _)); exact BK278.out) hb); have n2_ := Aside0.mk (zl (by repeat (first | (with_reducible first | exact HB.out | apply zc | apply za | apply zb | refine zd ?_ GE277.out | refine zd ?_ GE278.out) | exact HB.out)) hb); clear BK277; clear BK278; clear HB; have BK277 := n0_; have BK278 := n1_; have HB := n2_; clear n0_ n1_ n2_; (try clear hb); (try clear hb2); (try clear hk); (try clear hi); have hcz12_0 : w11.cell? ⟨gb277, 0, none⟩ = some (.int .i64 a0_0) := (zh BK277.out 0).trans rfl; have hcz12_1 : w11.cell? ⟨gb277, 1, none⟩ = some (.slice A0_1 l0_1.length c0_1) := (zh BK277.out 1).trans rfl; have hfz12_0 := zi BK277.out 0; have hfz12_1 := zi BK277.out 1) | ((with_reducible refine zo (f := 59) rfl ?_); refine zL (some 18) rfl rfl Try.func59 (by kernel_rfl) rfl #[.agg #[.int .i64 a0_0, .slice A0_1 l0_1.length c0_1], .int .i64 (Go.bits .or .i64 a1 a2)] rfl (by (try simp only [List.map_toArray, List.map_cons, List.map_nil]); first | done | rfl | (simp only [List.length_drop, List.length_take]; rfl)) ?_; (with_reducible refine (qi.calls k a0_0 _ _ l0_1 (Go.bits .or .i64 a1 a2) t280 _ ?side1 ?side2 A5.out).mono ?_); (case side1 => repeat (first | exact (Kd.zG HR0_1.out HB.out) | (with_reducible refine Kd.zI ?_ _) | (with_reducible refine Kd.zH ?_ _) | (with_reducible refine Kd.zP ?_))); (case side2 => exact HC0_1.out); rintro e w13 ⟨rfl, hb⟩; refine ⟨_, rfl, ?_⟩; have n0_ := Aside0.mk (zj (g := gb277) (o := .cells #[.int .i64 a0_0, .slice A0_1 l0_1.length c0_1] 26 (0, 0)) (by (with_reducible repeat (first | refine ze ?_ _ | refine zg ?_ | refine zf ?_ _)); exact BK277.out) hb); have n1_ := Aside0.mk (zj (g := gb278) (o := .cells #[.int .i64 0, .slice none 0 0] 26 (0, 0)) (by (with_reducible repeat (first | refine ze ?_ _ | refine zg ?_ | refine zf ?_ _)); exact BK278.out) hb); have n2_ := Aside0.mk (zl (by repeat (first | (with_reducible first | exact HB.out | apply zc | apply za | apply zb | refine zd ?_ GE277.out | refine zd ?_ GE278.out) | exact HB.out)) hb); clear BK277; clear BK278; clear HB; have BK277 := n0_; have BK278 := n1_; have HB := n2_; clear n0_ n1_ n2_; (try clear hb); (try clear hb2); (try clear hk); (try clear hi)) | ((with_reducible refine zo (f := 49) rfl ?_); refine zL (some 22) rfl rfl Try.func49 (by kernel_rfl) rfl #[.int .i64 a1] rfl (by (try simp only [List.map_toArray, List.map_cons, List.map_nil]); first | done | rfl | (simp only [List.length_drop, List.length_take]; rfl)) ?_; (with_reducible refine (qv.calls a1 t281 _ A6.out).mono ?_); rintro e w' ⟨rfl, ⟨nd, rfl⟩⟩; refine ⟨_, rfl, ?_⟩; (try (rw [jN w13]; generalize hq_ : World.drewN w13 _ = w13; have n0_ : Aside0 (w13.heap[gb277]? = some (.cells #[.int .i64 a0_0, .slice A0_1 l0_1.length c0_1] 26 (0, 0))) := ⟨by rw [← hq_]; exact (by (with_reducible repeat (first | refine ze ?_ _ | refine zg ?_ | refine zf ?_ _)); exact BK277.out)⟩; have n1_ : Aside0 (w13.heap[gb278]? = some (.cells #[.int .i64 0, .slice none 0 0] 26 (0, 0))) := ⟨by rw [← hq_]; exact (by (with_reducible repeat (first | refine ze ?_ _ | refine zg ?_ | refine zf ?_ _)); exact BK278.out)⟩; have n2_ : Aside0 (Below w.heap.size w w13) := ⟨by rw [← hq_]; exact (by repeat (first | (with_reducible first | exact HB.out | apply zc | apply za | apply zb | refine zd ?_ GE277.out | refine zd ?_ GE278.out) | exact HB.out))⟩; clear BK277 BK278 HB hq_; have BK277 := n0_; have BK278 := n1_; have HB := n2_; clear n0_ n1_ n2_; have hczqgb277_0 : w13.cell? ⟨gb277, 0, none⟩ = some (.int .i64 a0_0) := (zh BK277.out 0).trans rfl; have hfzqgb277_0 := zi BK277.out 0; have hczqgb277_1 : w13.cell? ⟨gb277, 1, none⟩ = some (.slice A0_1 l0_1.length c0_1) := (zh BK277.out 1).trans rfl; have hfzqgb277_1 := zi BK277.out 1; have hczqgb278_0 : w13.cell? ⟨gb278, 0, none⟩ = some (.int .i64 0) := (zh BK278.out 0).trans rfl; have hfzqgb278_0 := zi BK278.out 0; have hczqgb278_1 : w13.cell? ⟨gb278, 1, none⟩ = some (.slice none 0 0) := (zh BK278.out 1).trans rfl; have hfzqgb278_1 := zi BK278.out 1))) | ((with_reducible refine zD (N := 9) rfl ?_); refine zA ?hg (N := 9) ?hd (cs := #[.int .i64 0, .slice none 0 0]) (t := 26) ?hr ?_; (case hd => rfl); (case hg => rfl); (case hr => first | (go_simp; done) | (go_simp; rfl)); intro gb282 hg w14 hbox hb; have n0_ := Aside0.mk (zj (g := gb277) (o := .cells #[.int .i64 a0_0, .slice A0_1 l0_1.length c0_1] 26 (0, 0)) (by (with_reducible repeat (first | refine ze ?_ _ | refine zg ?_ | refine zf ?_ _)); exact BK277.out) hb); have n1_ := Aside0.mk (zj (g := gb278) (o := .cells #[.int .i64 0, .slice none 0 0] 26 (0, 0)) (by (with_reducible repeat (first | refine ze ?_ _ | refine zg ?_ | refine zf ?_ _)); exact BK278.out) hb); have n2_ := Aside0.mk (zl (by repeat (first | (with_reducible first | exact HB.out | apply zc | apply za | apply zb | refine zd ?_ GE277.out | refine zd ?_ GE278.out) | exact HB.out)) hb); have n3_ := Aside0.mk (hbox); have n4_ := Aside0.mk ((by rw [hg]; exact (zk (by repeat (first | (with_reducible first | exact HB.out | apply zc | apply za | apply zb | refine zd ?_ GE277.out | refine zd ?_ GE278.out) | exact HB.out))) : w.heap.size ≤ gb282)); have n5_ := Aside0.mk ((by rw [hg]; exact (zk (by repeat (first | (with_reducible first | exact HB.out | apply zc | apply za | apply zb | refine zd ?_ GE277.out | refine zd ?_ GE278.out) | exact HB.out))) : w.heap.size ≤ gb282)); have n6_ := Aside0.mk ((by rw [hg]; exact Nat.ne_of_lt (zM (g := gb277) (o := .cells #[.int .i64 a0_0, .slice A0_1 l0_1.length c0_1] 26 (0, 0)) (by (with_reducible repeat (first | refine ze ?_ _ | refine zg ?_ | refine zf ?_ _)); exact BK277.out)) : gb277 ≠ gb282)); have n7_ := Aside0.mk ((by rw [hg]; exact Nat.ne_of_gt (zM (g := gb277) (o := .cells #[.int .i64 a0_0, .slice A0_1 l0_1.length c0_1] 26 (0, 0)) (by (with_reducible repeat (first | refine ze ?_ _ | refine zg ?_ | refine zf ?_ _)); exact BK277.out)) : gb282 ≠ gb277)); have n8_ := Aside0.mk ((by rw [hg]; exact Nat.ne_of_lt (zM (g := gb278) (o := .cells #[.int .i64 0, .slice none 0 0] 26 (0, 0)) (by (with_reducible repeat (first | refine ze ?_ _ | refine zg ?_ | refine zf ?_ _)); exact BK278.out)) : gb278 ≠ gb282)); have n9_ := Aside0.mk ((by rw [hg]; exact Nat.ne_of_gt (zM (g := gb278) (o := .cells #[.int .i64 0, .slice none 0 0] 26 (0, 0)) (by (with_reducible repeat (first | refine ze ?_ _ | refine zg ?_ | refine zf ?_ _)); exact BK278.out)) : gb282 ≠ gb278)); clear BK277; clear BK278; clear HB; have BK277 := n0_; have BK278 := n1_; have HB := n2_; have BK282 := n3_; have GW282 := n4_; have GE282 := n5_; have NB277_282 := n6_; have NB282_277 := n7_; have NB278_282 := n8_; have NB282_278 := n9_; clear n0_ n1_ n2_ n3_ n4_ n5_ n6_ n7_ n8_ n9_; clear hb hbox hg; have hnb15 := NB282_277.out; have hnc15 := NB277_282.out; have hnb16 := NB282_278.out; have hnc16 := NB278_282.out; have hcz17_0 : w14.cell? ⟨gb282, 0, none⟩ = some (.int .i64 0) := (zh BK282.out 0).trans rfl; have hcz17_1 : w14.cell? ⟨gb282, 1, none⟩ = some (.slice none 0 0) := (zh BK282.out 1).trans rfl; have hfz17_0 := zi BK282.out 0; have hfz17_1 := zi BK282.out 1))
 go_loopg [10] k (fun kq v10 w' => ∃ (x10_1 : Int) (x283001_1 : List Int) (u283001 : Value), v10 = .int .i64 x10_1 ∧ Aside0 (zJ.l0 kq a1 a2 t279 (wrap64 (t280 - t279)) x10_1 a0_0 l0_1 t281 x283001_1 = some (r1, r2)) ∧ Aside0 (kq ≤ k) ∧ Aside0 (Kd.R (Kd.int .i64) 3 w' w.heap.size (fun _ => True) u283001 x283001_1) ∧ Aside0 (w'.heap[gb277]? = some (.cells #[.int .i64 a0_0, (.slice A0_1 l0_1.length c0_1)] 26 (0, 0))) ∧ Aside0 (w'.heap[gb278]? = some (.cells #[.int .i64 0, (.slice none 0 0)] 26 (0, 0))) ∧ Aside0 (w'.heap[gb282]? = some (.cells #[.int .i64 t281, u283001] 26 (0, 0))) ∧ Aside0 (Below w.heap.size w w'))
 case atStart => exact ⟨(0), (([] : List Int)), (.slice none 0 0), (by first | rfl | (simp; done) | (simp [*]; done)), H', ⟨Nat.le_refl _⟩, ⟨by first | exact Kd.yE _ _ _ _ _ | exact Kd.Ze _ _ _ _ _ | exact Kd.ZF _ _ _ _ _ | exact Kd.Zw _ _ _ _ _ | exact Kd.Zt _ _ _ _ _⟩, ⟨by (with_reducible repeat (first | refine ze ?_ _ | refine zg ?_ | refine zf ?_ _)); refine qw ?_ NB277_282.out _; (with_reducible repeat (first | refine ze ?_ _ | refine zg ?_ | refine zf ?_ _)); refine qw ?_ NB277_282.out _; (with_reducible repeat (first | refine ze ?_ _ | refine zg ?_ | refine zf ?_ _)); exact BK277.out⟩, ⟨by (with_reducible repeat (first | refine ze ?_ _ | refine zg ?_ | refine zf ?_ _)); refine qw ?_ NB278_282.out _; (with_reducible repeat (first | refine ze ?_ _ | refine zg ?_ | refine zf ?_ _)); refine qw ?_ NB278_282.out _; (with_reducible repeat (first | refine ze ?_ _ | refine zg ?_ | refine zf ?_ _)); exact BK278.out⟩, ⟨by (with_reducible repeat (first | refine ze ?_ _ | refine zg ?_ | refine zf ?_ _)); refine zV (cs := #[.int .i64 t281, .slice none 0 0]) ?_ 1 _ rfl; (with_reducible repeat (first | refine ze ?_ _ | refine zg ?_ | refine zf ?_ _)); refine zV (cs := #[.int .i64 0, .slice none 0 0]) ?_ 0 _ rfl; (with_reducible repeat (first | refine ze ?_ _ | refine zg ?_ | refine zf ?_ _)); exact BK282.out⟩, ⟨by repeat (first | (with_reducible first | exact HB.out | apply zc | apply za | apply zb | refine zd ?_ GE277.out | refine zd ?_ GE278.out | refine zd ?_ GE282.out) | exact HB.out)⟩⟩
 case round =>
  clear H'
  try clear c1
  try clear p2
  try clear c3
  try clear c4
  try clear c5
  try clear p6
  try clear c9
  try clear c15
  try clear c16
  try clear hcz10_0
  try clear hcz10_1
  try clear hcz12_0
  try clear hcz12_1
  try clear hcz17_0
  try clear hcz17_1
  try clear hfz10_0
  try clear hfz10_1
  try clear hfz12_0
  try clear hfz12_1
  try clear hfz17_0
  try clear hfz17_1
  obtain ⟨x10_1, x283001_1, u283001, rfl, HA, HK1, HO_283001, BK277, BK278, BK282, HB⟩ := hrel
  cases gk with
  | zero => exact absurd HA.out (by simp [zJ.l0])
  | succ k1 =>
   have H := HA.out
   clear HA
   simp only [zJ.l0] at H
   replace H := Option.bind_eq_some_iff.mp H
   obtain ⟨t283, A180, H⟩ := H
   replace H : (if x10_1 ≤ t283 then ((qv.f x10_1).bind fun t284 => (if t284 = (wrap64 (t280 - t279)) then ((qf.f k1 x10_1 a1).bind fun t285 => ((qi.f k1 a0_0 l0_1 (Go.bits .or .i64 t285 a2)).bind fun t286 => (if (wrap64 (t286 - t279)) = (wrap64 (t280 - t279)) then (if x283001_1.length < 17592186044416 then (zJ.l0 k1 a1 a2 t279 (wrap64 (t280 - t279)) (wrap64 (x10_1 + 1)) a0_0 l0_1 t281 (x283001_1 ++ [x10_1])) else (none)) else (zJ.l0 k1 a1 a2 t279 (wrap64 (t280 - t279)) (wrap64 (x10_1 + 1)) a0_0 l0_1 t281 x283001_1)))) else (zJ.l0 k1 a1 a2 t279 (wrap64 (t280 - t279)) (wrap64 (x10_1 + 1)) a0_0 l0_1 t281 x283001_1))) else (some (t281, x283001_1))) = some (r1, r2) := H
   have A18 := Aside0.mk A180
   clear A180
   by_cases c19 : x10_1 ≤ t283
   ·rw [if_pos c19] at H
    have c19b0 : decide (x10_1 ≤ t283) = true := decide_eq_true c19
    clear c19
    replace H := Option.bind_eq_some_iff.mp H
    obtain ⟨t284, A200, H⟩ := H
    replace H : (if t284 = (wrap64 (t280 - t279)) then ((qf.f k1 x10_1 a1).bind fun t285 => ((qi.f k1 a0_0 l0_1 (Go.bits .or .i64 t285 a2)).bind fun t286 => (if (wrap64 (t286 - t279)) = (wrap64 (t280 - t279)) then (if x283001_1.length < 17592186044416 then (zJ.l0 k1 a1 a2 t279 (wrap64 (t280 - t279)) (wrap64 (x10_1 + 1)) a0_0 l0_1 t281 (x283001_1 ++ [x10_1])) else (none)) else (zJ.l0 k1 a1 a2 t279 (wrap64 (t280 - t279)) (wrap64 (x10_1 + 1)) a0_0 l0_1 t281 x283001_1)))) else (zJ.l0 k1 a1 a2 t279 (wrap64 (t280 - t279)) (wrap64 (x10_1 + 1)) a0_0 l0_1 t281 x283001_1)) = some (r1, r2) := H
    have A20 := Aside0.mk A200
    clear A200
    by_cases c21 : t284 = (wrap64 (t280 - t279))
    ·rw [if_pos c21] at H
     have c21b0 : (t284 == (wrap64 (t280 - t279))) = true := beq_iff_eq.mpr c21
     have c21b1 : (t284 != (wrap64 (t280 - t279))) = false := bne_eq_false_iff_eq.mpr c21
     clear c21
     replace H := Option.bind_eq_some_iff.mp H
     obtain ⟨t285, A220, H⟩ := H
     replace H : ((qi.f k1 a0_0 l0_1 (Go.bits .or .i64 t285 a2)).bind fun t286 => (if (wrap64 (t286 - t279)) = (wrap64 (t280 - t279)) then (if x283001_1.length < 17592186044416 then (zJ.l0 k1 a1 a2 t279 (wrap64 (t280 - t279)) (wrap64 (x10_1 + 1)) a0_0 l0_1 t281 (x283001_1 ++ [x10_1])) else (none)) else (zJ.l0 k1 a1 a2 t279 (wrap64 (t280 - t279)) (wrap64 (x10_1 + 1)) a0_0 l0_1 t281 x283001_1))) = some (r1, r2) := H
     have A22 := Aside0.mk A220
     clear A220
     replace H := Option.bind_eq_some_iff.mp H
     obtain ⟨t286, A230, H⟩ := H
     replace H : (if (wrap64 (t286 - t279)) = (wrap64 (t280 - t279)) then (if x283001_1.length < 17592186044416 then (zJ.l0 k1 a1 a2 t279 (wrap64 (t280 - t279)) (wrap64 (x10_1 + 1)) a0_0 l0_1 t281 (x283001_1 ++ [x10_1])) else (none)) else (zJ.l0 k1 a1 a2 t279 (wrap64 (t280 - t279)) (wrap64 (x10_1 + 1)) a0_0 l0_1 t281 x283001_1)) = some (r1, r2) := H
     have A23 := Aside0.mk A230
     clear A230
     by_cases c24 : (wrap64 (t286 - t279)) = (wrap64 (t280 - t279))
     ·rw [if_pos c24] at H
      have c24b0 : ((wrap64 (t286 - t279)) == (wrap64 (t280 - t279))) = true := beq_iff_eq.mpr c24
      have c24b1 : ((wrap64 (t286 - t279)) != (wrap64 (t280 - t279))) = false := bne_eq_false_iff_eq.mpr c24
      clear c24
      by_cases c25 : x283001_1.length < 17592186044416
      ·rw [if_pos c25] at H
       have LMc25 := Aside0.mk c25
       clear c25
       obtain ⟨y287, hy287⟩ : ∃ y_ : List Int, y_ = (x283001_1 ++ [x10_1]) := ⟨_, rfl⟩
       replace H : (zJ.l0 k1 a1 a2 t279 (wrap64 (t280 - t279)) (wrap64 (x10_1 + 1)) a0_0 l0_1 t281 y287) = some (r1, r2) := by first | (rw [hy287]; with_reducible exact H) | (have H2_ := (Option.bind_some _ _).symm.trans H; rw [hy287]; with_reducible exact H2_) | (have H2_ := (Option.bind_some _ _).symm.trans H; with_reducible exact H2_) | with_reducible exact H | (rw [hy287]; exact H) | exact H
       have Ny287 := Aside0.mk hy287
       clear hy287
       have H' := Aside0.mk H
       clear H
       have hnb26 := NB282_277.out
       have hnc26 := NB277_282.out
       have hnb27 := NB282_278.out
       have hnc27 := NB278_282.out
       have hcz28_0 : wr.cell? ⟨gb282, 0, none⟩ = some (.int .i64 t281) := (zh BK282.out 0).trans rfl
       have hcz28_1 : wr.cell? ⟨gb282, 1, none⟩ = some (u283001) := (zh BK282.out 1).trans rfl
       have hfz28_0 := zi BK282.out 0
       have hfz28_1 := zi BK282.out 1
       try go_wp2_with (first | ((with_reducible refine zo (f := 40) rfl ?_); refine zL (some 27) rfl rfl Try.func40 (by kernel_rfl) rfl #[.int .i64 t281] rfl (by (try simp only [List.map_toArray, List.map_cons, List.map_nil]); first | done | rfl | (simp only [List.length_drop, List.length_take]; rfl)) ?_; (with_reducible refine (ql.calls t281 t283 _ A18.out).mono ?_); rintro e w' ⟨rfl, ⟨nd, rfl⟩⟩; refine ⟨_, rfl, ?_⟩; (try (rw [jN wr]; generalize hq_ : World.drewN wr _ = wr; have n0_ : Aside0 (Kd.R (Kd.int .i64) 3 wr w.heap.size (fun _ => True) u283001 x283001_1) := ⟨by rw [← hq_]; exact (by (with_reducible repeat (first | apply Kd.zw | apply Kd.zx | apply Kd.zz)); exact HO_283001.out)⟩; have n1_ : Aside0 (wr.heap[gb277]? = some (.cells #[.int .i64 a0_0, .slice A0_1 l0_1.length c0_1] 26 (0, 0))) := ⟨by rw [← hq_]; exact (by (with_reducible repeat (first | refine ze ?_ _ | refine zg ?_ | refine zf ?_ _)); exact BK277.out)⟩; have n2_ : Aside0 (wr.heap[gb278]? = some (.cells #[.int .i64 0, .slice none 0 0] 26 (0, 0))) := ⟨by rw [← hq_]; exact (by (with_reducible repeat (first | refine ze ?_ _ | refine zg ?_ | refine zf ?_ _)); exact BK278.out)⟩; have n3_ : Aside0 (wr.heap[gb282]? = some (.cells #[.int .i64 t281, u283001] 26 (0, 0))) := ⟨by rw [← hq_]; exact (by (with_reducible repeat (first | refine ze ?_ _ | refine zg ?_ | refine zf ?_ _)); exact BK282.out)⟩; have n4_ : Aside0 (Below w.heap.size w wr) := ⟨by rw [← hq_]; exact (by repeat (first | (with_reducible first | exact HB.out | apply zc | apply za | apply zb | refine zd ?_ GE277.out | refine zd ?_ GE278.out | refine zd ?_ GE282.out) | exact HB.out))⟩; clear HO_283001 BK277 BK278 BK282 HB hq_; have HO_283001 := n0_; have BK277 := n1_; have BK278 := n2_; have BK282 := n3_; have HB := n4_; clear n0_ n1_ n2_ n3_ n4_; have hczqgb277_0 : wr.cell? ⟨gb277, 0, none⟩ = some (.int .i64 a0_0) := (zh BK277.out 0).trans rfl; have hfzqgb277_0 := zi BK277.out 0; have hczqgb277_1 : wr.cell? ⟨gb277, 1, none⟩ = some (.slice A0_1 l0_1.length c0_1) := (zh BK277.out 1).trans rfl; have hfzqgb277_1 := zi BK277.out 1; have hczqgb278_0 : wr.cell? ⟨gb278, 0, none⟩ = some (.int .i64 0) := (zh BK278.out 0).trans rfl; have hfzqgb278_0 := zi BK278.out 0; have hczqgb278_1 : wr.cell? ⟨gb278, 1, none⟩ = some (.slice none 0 0) := (zh BK278.out 1).trans rfl; have hfzqgb278_1 := zi BK278.out 1; have hczqgb282_0 : wr.cell? ⟨gb282, 0, none⟩ = some (.int .i64 t281) := (zh BK282.out 0).trans rfl; have hfzqgb282_0 := zi BK282.out 0; have hczqgb282_1 : wr.cell? ⟨gb282, 1, none⟩ = some (u283001) := (zh BK282.out 1).trans rfl; have hfzqgb282_1 := zi BK282.out 1))))
       have n0_ := Aside0.mk (Kd.zz HO_283001.out)
       have n1_ := Aside0.mk (zg BK277.out)
       have n2_ := Aside0.mk (zg BK278.out)
       have n3_ := Aside0.mk (zg BK282.out)
       have n4_ := Aside0.mk (zb HB.out)
       clear HO_283001
       clear BK277
       clear BK278
       clear BK282
       clear HB
       have HO_283001 := n0_
       have BK277 := n1_
       have BK278 := n2_
       have BK282 := n3_
       have HB := n4_
       clear n0_ n1_ n2_ n3_ n4_
       refine jA (n := 17) (S := fun w' => w'.cell? ⟨gb277, 0, none⟩ = some (.int .i64 a0_0) ∧ w'.cell? ⟨gb277, 1, none⟩ = some (.slice A0_1 l0_1.length c0_1)) (ds := []) #[false, false, false, false, false, false, false, false, false, false, false, false, false, false, false, false, false] (by kernel_rfl) rfl rfl ⟨(zh BK277.out 0).trans rfl, (zh BK277.out 1).trans rfl⟩ (fun hHeld => ?_); refine qO zJ.zaC zJ.Yz (fun HT_ HW_ => ?_)
       generalize wr.drew = w29 at HO_283001 BK277 BK278 BK282 HB hHeld ⊢
       refine zE (i := 0) (N := some 31) (v := ?_) (a' := ?_) #[true, false, false, false, false, false, false, false, false, false, false, false, false, false, false, false, false] rfl rfl (zr HT_.out (by kernel_rfl)) (fun _ _ _ h => h) (Or.inl ⟨by rfl, ?_⟩) ?_ ?_
       rotate_left
       ·intro w'
        go_simp
        with_reducible rfl
       rotate_left
       ·simp only [Act.put, List.setIfInBounds_toArray, List.set_cons_zero, List.set_cons_succ, zm, zn]
        rfl
       refine zE (i := 2) (N := some 33) (v := ?_) (a' := ?_) #[true, false, true, false, false, false, false, false, false, false, false, false, false, false, false, false, false] rfl rfl (zr HT_.out (by kernel_rfl)) (fun _ _ _ h => h) (Or.inl ⟨by rfl, ?_⟩) ?_ ?_
       rotate_left
       ·intro w'
        go_simp
        with_reducible rfl
       rotate_left
       ·simp only [Act.put, List.setIfInBounds_toArray, List.set_cons_zero, List.set_cons_succ, zm, zn]
        rfl
       refine jJ (i := 1) (N := some 32) #[true, true, true, false, false, false, false, false, false, false, false, false, false, false, false, false, false] rfl rfl (qM HT_.out (by kernel_rfl)) (by decide) (fun K hK => ?_)
       refine jB Try.func49 (by kernel_rfl) rfl #[.int .i64 x10_1] (by rfl) rfl rfl (by (try simp only [List.map_toArray, List.map_cons, List.map_nil]); first | done | rfl | (simp only [List.length_drop, List.length_take]; rfl)) ?_
       with_reducible refine (qv.calls x10_1 t284 _ A20.out).mono ?_
       rintro e w' ⟨rfl, ⟨nd, rfl⟩⟩
       refine ⟨_, rfl, ?_⟩
       refine hK.out _ _ ⟨(zh BK277.out 0).trans rfl, (zh BK277.out 1).trans rfl⟩ (fun hHeld => ?_)
       clear hK K
       refine jh (a' := ?_) ?_ ?_
       rotate_left
       ·show Act.put _ (some 32) _ = _
        simp only [Act.put, List.setIfInBounds_toArray, List.set_cons_zero, List.set_cons_succ, zm, zn]
        rfl
       refine zE (i := 3) (N := some 34) (v := ?_) (a' := ?_) #[true, true, true, true, false, false, false, false, false, false, false, false, false, false, false, false, false] rfl rfl (zr HT_.out (by kernel_rfl)) (fun _ _ _ h => h) (Or.inl ⟨by rfl, ?_⟩) ?_ ?_
       rotate_left
       ·intro w'
        go_simp
        with_reducible rfl
       rotate_left
       ·simp only [Act.put, List.setIfInBounds_toArray, List.set_cons_zero, List.set_cons_succ, zm, zn]
        rfl
       refine zE (i := 4) (N := some 35) (v := ?_) (a' := ?_) #[true, true, true, true, true, false, false, false, false, false, false, false, false, false, false, false, false] rfl rfl (zr HT_.out (by kernel_rfl)) (fun _ _ _ h => h) (Or.inl ⟨by rfl, ?_⟩) ?_ ?_
       rotate_left
       ·intro w'
        go_simp
        with_reducible rfl
       rotate_left
       ·simp only [Act.put, List.setIfInBounds_toArray, List.set_cons_zero, List.set_cons_succ, zm, zn]
        rfl
       refine zE (i := 6) (N := some 37) (v := ?_) (a' := ?_) #[true, true, true, true, true, false, true, false, false, false, false, false, false, false, false, false, false] rfl rfl (zr HT_.out (by kernel_rfl)) (fun _ _ _ h => h) (Or.inl ⟨by rfl, ?_⟩) ?_ ?_
       rotate_left
       ·intro w'
        go_simp
        with_reducible rfl
       rotate_left
       ·simp only [Act.put, List.setIfInBounds_toArray, List.set_cons_zero, List.set_cons_succ, zm, zn]
        rfl
       refine zE (i := 7) (N := some 38) (v := ?_) (a' := ?_) #[true, true, true, true, true, false, true, true, false, false, false, false, false, false, false, false, false] rfl rfl (zr HT_.out (by kernel_rfl)) (fun _ _ _ h => h) (Or.inl ⟨by rfl, ?_⟩) ?_ ?_
       rotate_left
       ·intro w'
        go_simp
        with_reducible rfl
       rotate_left
       ·simp only [Act.put, List.setIfInBounds_toArray, List.set_cons_zero, List.set_cons_succ, zm, zn]
        rfl
       refine zE (i := 9) (N := some 40) (v := ?_) (a' := ?_) #[true, true, true, true, true, false, true, true, false, true, false, false, false, false, false, false, false] rfl rfl (zr HT_.out (by kernel_rfl)) (fun _ _ _ h => h) (Or.inl ⟨by rfl, ?_⟩) ?_ ?_
       rotate_left
       ·intro w'
        go_simp
        with_reducible rfl
       rotate_left
       ·simp only [Act.put, List.setIfInBounds_toArray, List.set_cons_zero, List.set_cons_succ, zm, zn]
        rfl
       refine zE (i := 12) (N := some 43) (v := ?_) (a' := ?_) #[true, true, true, true, true, false, true, true, false, true, false, false, true, false, false, false, false] rfl rfl (zr HT_.out (by kernel_rfl)) (fun _ _ _ h => h) (Or.inl ⟨by rfl, ?_⟩) ?_ ?_
       rotate_left
       ·intro w'
        go_simp
        with_reducible rfl
       rotate_left
       ·simp only [Act.put, List.setIfInBounds_toArray, List.set_cons_zero, List.set_cons_succ, zm, zn]
        rfl
       refine zE (i := 14) (N := some 45) (v := ?_) (a' := ?_) #[true, true, true, true, true, false, true, true, false, true, false, false, true, false, true, false, false] rfl rfl (zr HT_.out (by kernel_rfl)) (fun _ _ _ h => h) (Or.inl ⟨by rfl, ?_⟩) ?_ ?_
       rotate_left
       ·intro w'
        go_simp
        with_reducible rfl
       rotate_left
       ·simp only [Act.put, List.setIfInBounds_toArray, List.set_cons_zero, List.set_cons_succ, zm, zn]
        rfl
       refine jf (i := 5) (N := some 36) (v := ?_) (a' := ?_) #[true, true, true, true, true, true, true, true, false, true, false, false, true, false, true, false, false] rfl rfl (qu HT_.out HW_.out (by kernel_rfl)) (fun _ _ _ h => h) (Or.inl ⟨by rfl, ?_⟩) hHeld ?_ ?_
       rotate_left
       ·rintro w' ⟨s0, s1⟩
        go_simp
        with_reducible rfl
       rotate_left
       ·simp only [Act.put, List.setIfInBounds_toArray, List.set_cons_zero, List.set_cons_succ, zm, zn]
        rfl
       refine jJ (i := 8) (N := some 39) #[true, true, true, true, true, true, true, true, true, true, false, false, true, false, true, false, false] rfl rfl (qM HT_.out (by kernel_rfl)) (by decide) (fun K hK => ?_)
       refine jB Try.func60 (by kernel_rfl) rfl #[.int .i64 x10_1, .int .i64 a1] (by rfl) rfl rfl (by (try simp only [List.map_toArray, List.map_cons, List.map_nil]); first | done | rfl | (simp only [List.length_drop, List.length_take]; rfl)) ?_
       with_reducible refine (qf.calls k1 x10_1 a1 t285 _ A22.out).mono ?_
       rintro e w30 ⟨rfl, hb⟩
       refine ⟨_, rfl, ?_⟩
       have n0_ := Aside0.mk (Kd.qq (by (with_reducible repeat (first | apply Kd.zw | apply Kd.zx | apply Kd.zz)); exact HO_283001.out) hb)
       have n1_ := Aside0.mk (zj (g := gb277) (o := .cells #[.int .i64 a0_0, .slice A0_1 l0_1.length c0_1] 26 (0, 0)) (by (with_reducible repeat (first | refine ze ?_ _ | refine zg ?_ | refine zf ?_ _)); exact BK277.out) hb)
       have n2_ := Aside0.mk (zj (g := gb278) (o := .cells #[.int .i64 0, .slice none 0 0] 26 (0, 0)) (by (with_reducible repeat (first | refine ze ?_ _ | refine zg ?_ | refine zf ?_ _)); exact BK278.out) hb)
       have n3_ := Aside0.mk (zj (g := gb282) (o := .cells #[.int .i64 t281, u283001] 26 (0, 0)) (by (with_reducible repeat (first | refine ze ?_ _ | refine zg ?_ | refine zf ?_ _)); exact BK282.out) hb)
       have n4_ := Aside0.mk (zl (by repeat (first | (with_reducible first | exact HB.out | apply zc | apply za | apply zb | refine zd ?_ GE277.out | refine zd ?_ GE278.out | refine zd ?_ GE282.out) | exact HB.out)) hb)
       clear HO_283001
       clear BK277
       clear BK278
       clear BK282
       clear HB
       have HO_283001 := n0_
       have BK277 := n1_
       have BK278 := n2_
       have BK282 := n3_
       have HB := n4_
       clear n0_ n1_ n2_ n3_ n4_
       (try clear hb)
       (try clear hb2)
       (try clear hk)
       (try clear hi)
       refine hK.out _ _ ⟨(zh BK277.out 0).trans rfl, (zh BK277.out 1).trans rfl⟩ (fun hHeld => ?_)
       clear hK K
       refine jh (a' := ?_) ?_ ?_
       rotate_left
       ·show Act.put _ (some 39) _ = _
        simp only [Act.put, List.setIfInBounds_toArray, List.set_cons_zero, List.set_cons_succ, zm, zn]
        rfl
       refine zE (i := 10) (N := some 41) (v := ?_) (a' := ?_) #[true, true, true, true, true, true, true, true, true, true, true, false, true, false, true, false, false] rfl rfl (zr HT_.out (by kernel_rfl)) (fun _ _ _ h => h) (Or.inl ⟨by rfl, ?_⟩) ?_ ?_
       rotate_left
       ·intro w'
        go_simp
        with_reducible rfl
       rotate_left
       ·simp only [Act.put, List.setIfInBounds_toArray, List.set_cons_zero, List.set_cons_succ, zm, zn]
        rfl
       refine jJ (i := 11) (N := some 42) #[true, true, true, true, true, true, true, true, true, true, true, true, true, false, true, false, false] rfl rfl (qM HT_.out (by kernel_rfl)) (by decide) (fun K hK => ?_)
       refine jB Try.func59 (by kernel_rfl) rfl #[.agg #[.int .i64 a0_0, .slice A0_1 l0_1.length c0_1], .int .i64 (Go.bits .or .i64 t285 a2)] (by rfl) rfl rfl (by (try simp only [List.map_toArray, List.map_cons, List.map_nil]); first | done | rfl | (simp only [List.length_drop, List.length_take]; rfl)) ?_
       with_reducible refine (qi.calls k1 a0_0 _ _ l0_1 (Go.bits .or .i64 t285 a2) t286 _ ?side1 ?side2 A23.out).mono ?_
       (case side1 => repeat (first | exact (Kd.zG HR0_1.out HB.out) | (with_reducible refine Kd.zI ?_ _) | (with_reducible refine Kd.zH ?_ _) | (with_reducible refine Kd.zP ?_)))
       (case side2 => exact HC0_1.out)
       rintro e w31 ⟨rfl, hb⟩
       refine ⟨_, rfl, ?_⟩
       have n0_ := Aside0.mk (Kd.qq (by (with_reducible repeat (first | apply Kd.zw | apply Kd.zx | apply Kd.zz)); exact HO_283001.out) hb)
       have n1_ := Aside0.mk (zj (g := gb277) (o := .cells #[.int .i64 a0_0, .slice A0_1 l0_1.length c0_1] 26 (0, 0)) (by (with_reducible repeat (first | refine ze ?_ _ | refine zg ?_ | refine zf ?_ _)); exact BK277.out) hb)
       have n2_ := Aside0.mk (zj (g := gb278) (o := .cells #[.int .i64 0, .slice none 0 0] 26 (0, 0)) (by (with_reducible repeat (first | refine ze ?_ _ | refine zg ?_ | refine zf ?_ _)); exact BK278.out) hb)
       have n3_ := Aside0.mk (zj (g := gb282) (o := .cells #[.int .i64 t281, u283001] 26 (0, 0)) (by (with_reducible repeat (first | refine ze ?_ _ | refine zg ?_ | refine zf ?_ _)); exact BK282.out) hb)
       have n4_ := Aside0.mk (zl (by repeat (first | (with_reducible first | exact HB.out | apply zc | apply za | apply zb | refine zd ?_ GE277.out | refine zd ?_ GE278.out | refine zd ?_ GE282.out) | exact HB.out)) hb)
       clear HO_283001
       clear BK277
       clear BK278
       clear BK282
       clear HB
       have HO_283001 := n0_
       have BK277 := n1_
       have BK278 := n2_
       have BK282 := n3_
       have HB := n4_
       clear n0_ n1_ n2_ n3_ n4_
       (try clear hb)
       (try clear hb2)
       (try clear hk)
       (try clear hi)
       refine hK.out _ _ ⟨(zh BK277.out 0).trans rfl, (zh BK277.out 1).trans rfl⟩ (fun hHeld => ?_)
       clear hK K
       refine jh (a' := ?_) ?_ ?_
       rotate_left
       ·show Act.put _ (some 42) _ = _
        simp only [Act.put, List.setIfInBounds_toArray, List.set_cons_zero, List.set_cons_succ, zm, zn]
        rfl
       refine zE (i := 13) (N := some 44) (v := ?_) (a' := ?_) #[true, true, true, true, true, true, true, true, true, true, true, true, true, true, true, false, false] rfl rfl (zr HT_.out (by kernel_rfl)) (fun _ _ _ h => h) (Or.inl ⟨by rfl, ?_⟩) ?_ ?_
       rotate_left
       ·intro w'
        go_simp
        with_reducible rfl
       rotate_left
       ·simp only [Act.put, List.setIfInBounds_toArray, List.set_cons_zero, List.set_cons_succ, zm, zn]
        rfl
       refine zE (i := 15) (N := some 46) (v := ?_) (a' := ?_) #[true, true, true, true, true, true, true, true, true, true, true, true, true, true, true, true, false] rfl rfl (zr HT_.out (by kernel_rfl)) (fun _ _ _ h => h) (Or.inl ⟨by rfl, ?_⟩) ?_ ?_
       rotate_left
       ·intro w'
        go_simp
        with_reducible rfl
       rotate_left
       ·simp only [Act.put, List.setIfInBounds_toArray, List.set_cons_zero, List.set_cons_succ, zm, zn]
        rfl
       refine zE (i := 16) (N := some 47) (v := ?_) (a' := ?_) #[true, true, true, true, true, true, true, true, true, true, true, true, true, true, true, true, true] rfl rfl (zr HT_.out (by kernel_rfl)) (fun _ _ _ h => h) (Or.inl ⟨by rfl, ?_⟩) ?_ ?_
       rotate_left
       ·intro w'
        go_simp
        with_reducible rfl
       rotate_left
       ·simp only [Act.put, List.setIfInBounds_toArray, List.set_cons_zero, List.set_cons_succ, zm, zn]
        rfl
       refine j4 (jm HT_.out (by kernel_rfl)) ?_
       have hcz32_0 : w31.cell? ⟨gb282, 0, none⟩ = some (.int .i64 t281) := (zh BK282.out 0).trans rfl
       have hcz32_1 : w31.cell? ⟨gb282, 1, none⟩ = some (u283001) := (zh BK282.out 1).trans rfl
       have hfz32_0 := zi BK282.out 0
       have hfz32_1 := zi BK282.out 1
       try go_wp2_with (first | ((with_reducible refine jU (b := .append) (xs := #[.tmp 49, .tmp 51]) rfl ?_); at_builtin; refine Kd.yN (Kd.int .i64) (w0 := w) w.heap.size rfl (.tmp 49) (.tmp 51) 22 3 (.int .i64 0) 8 rfl Try.underlying22 vJ rfl (by decide) (by omega) u283001 x283001_1 x10_1 [.int .i64 x10_1] (fun _ => True) (fun _ => False) rfl rfl ?aP (fun _ hk => hk.elim) ?aF ?aO ?aB ?aS ?aL ?_; (case aP => exact rfl); (case aB => exact (by repeat (first | (with_reducible first | exact HB.out | apply zc | apply za | apply zb | refine zd ?_ GE277.out | refine zd ?_ GE278.out | refine zd ?_ GE282.out) | exact HB.out))); (case aF => exact (fun _ _ => trivial)); (case aO => exact (by (with_reducible repeat (first | apply Kd.zw | apply Kd.zx | apply Kd.zz)); exact HO_283001.out)); (case aS => exact (zk (by repeat (first | (with_reducible first | exact HB.out | apply zc | apply za | apply zb | refine zd ?_ GE277.out | refine zd ?_ GE278.out | refine zd ?_ GE282.out) | exact HB.out)))); (case aL => have := LMc25.out; omega); intro v288 w33 ho hb hg hat; rw [← Ny287.out] at ho; have n0_ := Aside0.mk (vA (g := gb277) (o := .cells #[.int .i64 a0_0, .slice A0_1 l0_1.length c0_1] 26 (0, 0)) (by (with_reducible repeat (first | refine ze ?_ _ | refine zg ?_ | refine zf ?_ _)); exact BK277.out) hg (Kd.JM HO_283001.out BK277.out (by decide))); have n1_ := Aside0.mk (vA (g := gb278) (o := .cells #[.int .i64 0, .slice none 0 0] 26 (0, 0)) (by (with_reducible repeat (first | refine ze ?_ _ | refine zg ?_ | refine zf ?_ _)); exact BK278.out) hg (Kd.JM HO_283001.out BK278.out (by decide))); have n2_ := Aside0.mk (vA (g := gb282) (o := .cells #[.int .i64 t281, u283001] 26 (0, 0)) (by (with_reducible repeat (first | refine ze ?_ _ | refine zg ?_ | refine zf ?_ _)); exact BK282.out) hg (Kd.JM HO_283001.out BK282.out (by decide))); have n3_ := Aside0.mk (hb); have n4_ := Aside0.mk (ho); clear BK277; clear BK278; clear BK282; clear HB; clear HO_283001; have BK277 := n0_; have BK278 := n1_; have BK282 := n2_; have HB := n3_; have HO289 := n4_; clear n0_ n1_ n2_ n3_ n4_; clear ho hb hg hat; obtain ⟨Ao34, co34, eo34⟩ := Kd.qo HO289.out; subst eo34; have hcz35_0 : w33.cell? ⟨gb282, 0, none⟩ = some (.int .i64 t281) := (zh BK282.out 0).trans rfl; have hcz35_1 : w33.cell? ⟨gb282, 1, none⟩ = some (u283001) := (zh BK282.out 1).trans rfl; have hfz35_0 := zi BK282.out 0; have hfz35_1 := zi BK282.out 1))
       go_roundg k1
       case measure => have := HK1.out; omega
       case rel => exact ⟨(wrap64 (x10_1 + 1)), (y287), (.slice Ao34 y287.length co34), (by first | rfl | (simp; done) | (simp [*]; done)), H', ⟨by have := HK1.out; omega⟩, ⟨by (with_reducible repeat (first | apply Kd.zw | apply Kd.zx | apply Kd.zz)); exact Kd.qn (Kd.qx (p := ⟨gb282, 1, none⟩) (Kd.qG HO289.out BK282.out (by decide)) (fun _ hk => hk.2) (.slice Ao34 y287.length co34)) (fun _ hk => trivial)⟩, ⟨by (with_reducible repeat (first | refine ze ?_ _ | refine zg ?_ | refine zf ?_ _)); refine qw ?_ NB277_282.out _; (with_reducible repeat (first | refine ze ?_ _ | refine zg ?_ | refine zf ?_ _)); exact BK277.out⟩, ⟨by (with_reducible repeat (first | refine ze ?_ _ | refine zg ?_ | refine zf ?_ _)); refine qw ?_ NB278_282.out _; (with_reducible repeat (first | refine ze ?_ _ | refine zg ?_ | refine zf ?_ _)); exact BK278.out⟩, ⟨by (with_reducible repeat (first | refine ze ?_ _ | refine zg ?_ | refine zf ?_ _)); refine zV (cs := #[.int .i64 t281, u283001]) ?_ 1 _ rfl; (with_reducible repeat (first | refine ze ?_ _ | refine zg ?_ | refine zf ?_ _)); exact BK282.out⟩, ⟨by repeat (first | (with_reducible first | exact HB.out | apply zc | apply za | apply zb | refine zd ?_ GE277.out | refine zd ?_ GE278.out | refine zd ?_ GE282.out) | exact HB.out)⟩⟩
      ·rw [if_neg c25] at H
       exact absurd H (by simp)
     ·rw [if_neg c24] at H
      have c24b0 : ((wrap64 (t286 - t279)) == (wrap64 (t280 - t279))) = false := beq_eq_false_iff_ne.mpr c24
      have c24b1 : ((wrap64 (t286 - t279)) != (wrap64 (t280 - t279))) = true := bne_iff_ne.mpr c24
      have H' := Aside0.mk H
      clear H
      have hnb36 := NB282_277.out
      have hnc36 := NB277_282.out
      have hnb37 := NB282_278.out
      have hnc37 := NB278_282.out
      have hcz38_0 : wr.cell? ⟨gb282, 0, none⟩ = some (.int .i64 t281) := (zh BK282.out 0).trans rfl
      have hcz38_1 : wr.cell? ⟨gb282, 1, none⟩ = some (u283001) := (zh BK282.out 1).trans rfl
      have hfz38_0 := zi BK282.out 0
      have hfz38_1 := zi BK282.out 1
      try go_wp2_with (first | ((with_reducible refine zo (f := 40) rfl ?_); refine zL (some 27) rfl rfl Try.func40 (by kernel_rfl) rfl #[.int .i64 t281] rfl (by (try simp only [List.map_toArray, List.map_cons, List.map_nil]); first | done | rfl | (simp only [List.length_drop, List.length_take]; rfl)) ?_; (with_reducible refine (ql.calls t281 t283 _ A18.out).mono ?_); rintro e w' ⟨rfl, ⟨nd, rfl⟩⟩; refine ⟨_, rfl, ?_⟩))
      (try (rw [jN wr]; generalize hq_ : World.drewN wr _ = wr; have n0_ : Aside0 (Kd.R (Kd.int .i64) 3 wr w.heap.size (fun _ => True) u283001 x283001_1) := ⟨by rw [← hq_]; exact (by (with_reducible repeat (first | apply Kd.zw | apply Kd.zx | apply Kd.zz)); exact HO_283001.out)⟩; have n1_ : Aside0 (wr.heap[gb277]? = some (.cells #[.int .i64 a0_0, .slice A0_1 l0_1.length c0_1] 26 (0, 0))) := ⟨by rw [← hq_]; exact (by (with_reducible repeat (first | refine ze ?_ _ | refine zg ?_ | refine zf ?_ _)); exact BK277.out)⟩; have n2_ : Aside0 (wr.heap[gb278]? = some (.cells #[.int .i64 0, .slice none 0 0] 26 (0, 0))) := ⟨by rw [← hq_]; exact (by (with_reducible repeat (first | refine ze ?_ _ | refine zg ?_ | refine zf ?_ _)); exact BK278.out)⟩; have n3_ : Aside0 (wr.heap[gb282]? = some (.cells #[.int .i64 t281, u283001] 26 (0, 0))) := ⟨by rw [← hq_]; exact (by (with_reducible repeat (first | refine ze ?_ _ | refine zg ?_ | refine zf ?_ _)); exact BK282.out)⟩; have n4_ : Aside0 (Below w.heap.size w wr) := ⟨by rw [← hq_]; exact (by repeat (first | (with_reducible first | exact HB.out | apply zc | apply za | apply zb | refine zd ?_ GE277.out | refine zd ?_ GE278.out | refine zd ?_ GE282.out) | exact HB.out))⟩; clear HO_283001 BK277 BK278 BK282 HB hq_; have HO_283001 := n0_; have BK277 := n1_; have BK278 := n2_; have BK282 := n3_; have HB := n4_; clear n0_ n1_ n2_ n3_ n4_; have hczqgb277_0 : wr.cell? ⟨gb277, 0, none⟩ = some (.int .i64 a0_0) := (zh BK277.out 0).trans rfl; have hfzqgb277_0 := zi BK277.out 0; have hczqgb277_1 : wr.cell? ⟨gb277, 1, none⟩ = some (.slice A0_1 l0_1.length c0_1) := (zh BK277.out 1).trans rfl; have hfzqgb277_1 := zi BK277.out 1; have hczqgb278_0 : wr.cell? ⟨gb278, 0, none⟩ = some (.int .i64 0) := (zh BK278.out 0).trans rfl; have hfzqgb278_0 := zi BK278.out 0; have hczqgb278_1 : wr.cell? ⟨gb278, 1, none⟩ = some (.slice none 0 0) := (zh BK278.out 1).trans rfl; have hfzqgb278_1 := zi BK278.out 1; have hczqgb282_0 : wr.cell? ⟨gb282, 0, none⟩ = some (.int .i64 t281) := (zh BK282.out 0).trans rfl; have hfzqgb282_0 := zi BK282.out 0; have hczqgb282_1 : wr.cell? ⟨gb282, 1, none⟩ = some (u283001) := (zh BK282.out 1).trans rfl; have hfzqgb282_1 := zi BK282.out 1))
      have n0_ := Aside0.mk (Kd.zz HO_283001.out)
      have n1_ := Aside0.mk (zg BK277.out)
      have n2_ := Aside0.mk (zg BK278.out)
      have n3_ := Aside0.mk (zg BK282.out)
      have n4_ := Aside0.mk (zb HB.out)
      clear HO_283001
      clear BK277
      clear BK278
      clear BK282
      clear HB
      have HO_283001 := n0_
      have BK277 := n1_
      have BK278 := n2_
      have BK282 := n3_
      have HB := n4_
      clear n0_ n1_ n2_ n3_ n4_
      refine jA (n := 17) (S := fun w' => w'.cell? ⟨gb277, 0, none⟩ = some (.int .i64 a0_0) ∧ w'.cell? ⟨gb277, 1, none⟩ = some (.slice A0_1 l0_1.length c0_1)) (ds := []) #[false, false, false, false, false, false, false, false, false, false, false, false, false, false, false, false, false] (by kernel_rfl) rfl rfl ⟨(zh BK277.out 0).trans rfl, (zh BK277.out 1).trans rfl⟩ (fun hHeld => ?_); refine qO zJ.zaC zJ.Yz (fun HT_ HW_ => ?_)
      generalize wr.drew = w39 at HO_283001 BK277 BK278 BK282 HB hHeld ⊢
      refine zE (i := 0) (N := some 31) (v := ?_) (a' := ?_) #[true, false, false, false, false, false, false, false, false, false, false, false, false, false, false, false, false] rfl rfl (zr HT_.out (by kernel_rfl)) (fun _ _ _ h => h) (Or.inl ⟨by rfl, ?_⟩) ?_ ?_
      rotate_left
      ·intro w'
       go_simp
       with_reducible rfl
      rotate_left
      ·simp only [Act.put, List.setIfInBounds_toArray, List.set_cons_zero, List.set_cons_succ, zm, zn]
       rfl
      refine zE (i := 2) (N := some 33) (v := ?_) (a' := ?_) #[true, false, true, false, false, false, false, false, false, false, false, false, false, false, false, false, false] rfl rfl (zr HT_.out (by kernel_rfl)) (fun _ _ _ h => h) (Or.inl ⟨by rfl, ?_⟩) ?_ ?_
      rotate_left
      ·intro w'
       go_simp
       with_reducible rfl
      rotate_left
      ·simp only [Act.put, List.setIfInBounds_toArray, List.set_cons_zero, List.set_cons_succ, zm, zn]
       rfl
      refine jJ (i := 1) (N := some 32) #[true, true, true, false, false, false, false, false, false, false, false, false, false, false, false, false, false] rfl rfl (qM HT_.out (by kernel_rfl)) (by decide) (fun K hK => ?_)
      refine jB Try.func49 (by kernel_rfl) rfl #[.int .i64 x10_1] (by rfl) rfl rfl (by (try simp only [List.map_toArray, List.map_cons, List.map_nil]); first | done | rfl | (simp only [List.length_drop, List.length_take]; rfl)) ?_
      with_reducible refine (qv.calls x10_1 t284 _ A20.out).mono ?_
      rintro e w' ⟨rfl, ⟨nd, rfl⟩⟩
      refine ⟨_, rfl, ?_⟩
      refine hK.out _ _ ⟨(zh BK277.out 0).trans rfl, (zh BK277.out 1).trans rfl⟩ (fun hHeld => ?_)
      clear hK K
      refine jh (a' := ?_) ?_ ?_
      rotate_left
      ·show Act.put _ (some 32) _ = _
       simp only [Act.put, List.setIfInBounds_toArray, List.set_cons_zero, List.set_cons_succ, zm, zn]
       rfl
      refine zE (i := 3) (N := some 34) (v := ?_) (a' := ?_) #[true, true, true, true, false, false, false, false, false, false, false, false, false, false, false, false, false] rfl rfl (zr HT_.out (by kernel_rfl)) (fun _ _ _ h => h) (Or.inl ⟨by rfl, ?_⟩) ?_ ?_
      rotate_left
      ·intro w'
       go_simp
       with_reducible rfl
      rotate_left
      ·simp only [Act.put, List.setIfInBounds_toArray, List.set_cons_zero, List.set_cons_succ, zm, zn]
       rfl
      refine zE (i := 4) (N := some 35) (v := ?_) (a' := ?_) #[true, true, true, true, true, false, false, false, false, false, false, false, false, false, false, false, false] rfl rfl (zr HT_.out (by kernel_rfl)) (fun _ _ _ h => h) (Or.inl ⟨by rfl, ?_⟩) ?_ ?_
      rotate_left
      ·intro w'
       go_simp
       with_reducible rfl
      rotate_left
      ·simp only [Act.put, List.setIfInBounds_toArray, List.set_cons_zero, List.set_cons_succ, zm, zn]
       rfl
      refine zE (i := 6) (N := some 37) (v := ?_) (a' := ?_) #[true, true, true, true, true, false, true, false, false, false, false, false, false, false, false, false, false] rfl rfl (zr HT_.out (by kernel_rfl)) (fun _ _ _ h => h) (Or.inl ⟨by rfl, ?_⟩) ?_ ?_
      rotate_left
      ·intro w'
       go_simp
       with_reducible rfl
      rotate_left
      ·simp only [Act.put, List.setIfInBounds_toArray, List.set_cons_zero, List.set_cons_succ, zm, zn]
       rfl
      refine zE (i := 7) (N := some 38) (v := ?_) (a' := ?_) #[true, true, true, true, true, false, true, true, false, false, false, false, false, false, false, false, false] rfl rfl (zr HT_.out (by kernel_rfl)) (fun _ _ _ h => h) (Or.inl ⟨by rfl, ?_⟩) ?_ ?_
      rotate_left
      ·intro w'
       go_simp
       with_reducible rfl
      rotate_left
      ·simp only [Act.put, List.setIfInBounds_toArray, List.set_cons_zero, List.set_cons_succ, zm, zn]
       rfl
      refine zE (i := 9) (N := some 40) (v := ?_) (a' := ?_) #[true, true, true, true, true, false, true, true, false, true, false, false, false, false, false, false, false] rfl rfl (zr HT_.out (by kernel_rfl)) (fun _ _ _ h => h) (Or.inl ⟨by rfl, ?_⟩) ?_ ?_
      rotate_left
      ·intro w'
       go_simp
       with_reducible rfl
      rotate_left
      ·simp only [Act.put, List.setIfInBounds_toArray, List.set_cons_zero, List.set_cons_succ, zm, zn]
       rfl
      refine zE (i := 12) (N := some 43) (v := ?_) (a' := ?_) #[true, true, true, true, true, false, true, true, false, true, false, false, true, false, false, false, false] rfl rfl (zr HT_.out (by kernel_rfl)) (fun _ _ _ h => h) (Or.inl ⟨by rfl, ?_⟩) ?_ ?_
      rotate_left
      ·intro w'
       go_simp
       with_reducible rfl
      rotate_left
      ·simp only [Act.put, List.setIfInBounds_toArray, List.set_cons_zero, List.set_cons_succ, zm, zn]
       rfl
      refine zE (i := 14) (N := some 45) (v := ?_) (a' := ?_) #[true, true, true, true, true, false, true, true, false, true, false, false, true, false, true, false, false] rfl rfl (zr HT_.out (by kernel_rfl)) (fun _ _ _ h => h) (Or.inl ⟨by rfl, ?_⟩) ?_ ?_
      rotate_left
      ·intro w'
       go_simp
       with_reducible rfl
      rotate_left
      ·simp only [Act.put, List.setIfInBounds_toArray, List.set_cons_zero, List.set_cons_succ, zm, zn]
       rfl
      refine jf (i := 5) (N := some 36) (v := ?_) (a' := ?_) #[true, true, true, true, true, true, true, true, false, true, false, false, true, false, true, false, false] rfl rfl (qu HT_.out HW_.out (by kernel_rfl)) (fun _ _ _ h => h) (Or.inl ⟨by rfl, ?_⟩) hHeld ?_ ?_
      rotate_left
      ·rintro w' ⟨s0, s1⟩
       go_simp
       with_reducible rfl
      rotate_left
      ·simp only [Act.put, List.setIfInBounds_toArray, List.set_cons_zero, List.set_cons_succ, zm, zn]
       rfl
      refine jJ (i := 8) (N := some 39) #[true, true, true, true, true, true, true, true, true, true, false, false, true, false, true, false, false] rfl rfl (qM HT_.out (by kernel_rfl)) (by decide) (fun K hK => ?_)
      refine jB Try.func60 (by kernel_rfl) rfl #[.int .i64 x10_1, .int .i64 a1] (by rfl) rfl rfl (by (try simp only [List.map_toArray, List.map_cons, List.map_nil]); first | done | rfl | (simp only [List.length_drop, List.length_take]; rfl)) ?_
      with_reducible refine (qf.calls k1 x10_1 a1 t285 _ A22.out).mono ?_
      rintro e w40 ⟨rfl, hb⟩
      refine ⟨_, rfl, ?_⟩
      have n0_ := Aside0.mk (Kd.qq (by (with_reducible repeat (first | apply Kd.zw | apply Kd.zx | apply Kd.zz)); exact HO_283001.out) hb)
      have n1_ := Aside0.mk (zj (g := gb277) (o := .cells #[.int .i64 a0_0, .slice A0_1 l0_1.length c0_1] 26 (0, 0)) (by (with_reducible repeat (first | refine ze ?_ _ | refine zg ?_ | refine zf ?_ _)); exact BK277.out) hb)
      have n2_ := Aside0.mk (zj (g := gb278) (o := .cells #[.int .i64 0, .slice none 0 0] 26 (0, 0)) (by (with_reducible repeat (first | refine ze ?_ _ | refine zg ?_ | refine zf ?_ _)); exact BK278.out) hb)
      have n3_ := Aside0.mk (zj (g := gb282) (o := .cells #[.int .i64 t281, u283001] 26 (0, 0)) (by (with_reducible repeat (first | refine ze ?_ _ | refine zg ?_ | refine zf ?_ _)); exact BK282.out) hb)
      have n4_ := Aside0.mk (zl (by repeat (first | (with_reducible first | exact HB.out | apply zc | apply za | apply zb | refine zd ?_ GE277.out | refine zd ?_ GE278.out | refine zd ?_ GE282.out) | exact HB.out)) hb)
      clear HO_283001
      clear BK277
      clear BK278
      clear BK282
      clear HB
      have HO_283001 := n0_
      have BK277 := n1_
      have BK278 := n2_
      have BK282 := n3_
      have HB := n4_
      clear n0_ n1_ n2_ n3_ n4_
      (try clear hb)
      (try clear hb2)
      (try clear hk)
      (try clear hi)
      refine hK.out _ _ ⟨(zh BK277.out 0).trans rfl, (zh BK277.out 1).trans rfl⟩ (fun hHeld => ?_)
      clear hK K
      refine jh (a' := ?_) ?_ ?_
      rotate_left
      ·show Act.put _ (some 39) _ = _
       simp only [Act.put, List.setIfInBounds_toArray, List.set_cons_zero, List.set_cons_succ, zm, zn]
       rfl
      refine zE (i := 10) (N := some 41) (v := ?_) (a' := ?_) #[true, true, true, true, true, true, true, true, true, true, true, false, true, false, true, false, false] rfl rfl (zr HT_.out (by kernel_rfl)) (fun _ _ _ h => h) (Or.inl ⟨by rfl, ?_⟩) ?_ ?_
      rotate_left
      ·intro w'
       go_simp
       with_reducible rfl
      rotate_left
      ·simp only [Act.put, List.setIfInBounds_toArray, List.set_cons_zero, List.set_cons_succ, zm, zn]
       rfl
      refine jJ (i := 11) (N := some 42) #[true, true, true, true, true, true, true, true, true, true, true, true, true, false, true, false, false] rfl rfl (qM HT_.out (by kernel_rfl)) (by decide) (fun K hK => ?_)
      refine jB Try.func59 (by kernel_rfl) rfl #[.agg #[.int .i64 a0_0, .slice A0_1 l0_1.length c0_1], .int .i64 (Go.bits .or .i64 t285 a2)] (by rfl) rfl rfl (by (try simp only [List.map_toArray, List.map_cons, List.map_nil]); first | done | rfl | (simp only [List.length_drop, List.length_take]; rfl)) ?_
      with_reducible refine (qi.calls k1 a0_0 _ _ l0_1 (Go.bits .or .i64 t285 a2) t286 _ ?side1 ?side2 A23.out).mono ?_
      (case side1 => repeat (first | exact (Kd.zG HR0_1.out HB.out) | (with_reducible refine Kd.zI ?_ _) | (with_reducible refine Kd.zH ?_ _) | (with_reducible refine Kd.zP ?_)))
      (case side2 => exact HC0_1.out)
      rintro e w41 ⟨rfl, hb⟩
      refine ⟨_, rfl, ?_⟩
      have n0_ := Aside0.mk (Kd.qq (by (with_reducible repeat (first | apply Kd.zw | apply Kd.zx | apply Kd.zz)); exact HO_283001.out) hb)
      have n1_ := Aside0.mk (zj (g := gb277) (o := .cells #[.int .i64 a0_0, .slice A0_1 l0_1.length c0_1] 26 (0, 0)) (by (with_reducible repeat (first | refine ze ?_ _ | refine zg ?_ | refine zf ?_ _)); exact BK277.out) hb)
      have n2_ := Aside0.mk (zj (g := gb278) (o := .cells #[.int .i64 0, .slice none 0 0] 26 (0, 0)) (by (with_reducible repeat (first | refine ze ?_ _ | refine zg ?_ | refine zf ?_ _)); exact BK278.out) hb)
      have n3_ := Aside0.mk (zj (g := gb282) (o := .cells #[.int .i64 t281, u283001] 26 (0, 0)) (by (with_reducible repeat (first | refine ze ?_ _ | refine zg ?_ | refine zf ?_ _)); exact BK282.out) hb)
      have n4_ := Aside0.mk (zl (by repeat (first | (with_reducible first | exact HB.out | apply zc | apply za | apply zb | refine zd ?_ GE277.out | refine zd ?_ GE278.out | refine zd ?_ GE282.out) | exact HB.out)) hb)
      clear HO_283001
      clear BK277
      clear BK278
      clear BK282
      clear HB
      have HO_283001 := n0_
      have BK277 := n1_
      have BK278 := n2_
      have BK282 := n3_
      have HB := n4_
      clear n0_ n1_ n2_ n3_ n4_
      (try clear hb)
      (try clear hb2)
      (try clear hk)
      (try clear hi)
      refine hK.out _ _ ⟨(zh BK277.out 0).trans rfl, (zh BK277.out 1).trans rfl⟩ (fun hHeld => ?_)
      clear hK K
      refine jh (a' := ?_) ?_ ?_
      rotate_left
      ·show Act.put _ (some 42) _ = _
       simp only [Act.put, List.setIfInBounds_toArray, List.set_cons_zero, List.set_cons_succ, zm, zn]
       rfl
      refine zE (i := 13) (N := some 44) (v := ?_) (a' := ?_) #[true, true, true, true, true, true, true, true, true, true, true, true, true, true, true, false, false] rfl rfl (zr HT_.out (by kernel_rfl)) (fun _ _ _ h => h) (Or.inl ⟨by rfl, ?_⟩) ?_ ?_
      rotate_left
      ·intro w'
       go_simp
       with_reducible rfl
      rotate_left
      ·simp only [Act.put, List.setIfInBounds_toArray, List.set_cons_zero, List.set_cons_succ, zm, zn]
       rfl
      refine zE (i := 15) (N := some 46) (v := ?_) (a' := ?_) #[true, true, true, true, true, true, true, true, true, true, true, true, true, true, true, true, false] rfl rfl (zr HT_.out (by kernel_rfl)) (fun _ _ _ h => h) (Or.inl ⟨by rfl, ?_⟩) ?_ ?_
      rotate_left
      ·intro w'
       go_simp
       with_reducible rfl
      rotate_left
      ·simp only [Act.put, List.setIfInBounds_toArray, List.set_cons_zero, List.set_cons_succ, zm, zn]
       rfl
      refine zE (i := 16) (N := some 47) (v := ?_) (a' := ?_) #[true, true, true, true, true, true, true, true, true, true, true, true, true, true, true, true, true] rfl rfl (zr HT_.out (by kernel_rfl)) (fun _ _ _ h => h) (Or.inl ⟨by rfl, ?_⟩) ?_ ?_
      rotate_left
      ·intro w'
       go_simp
       with_reducible rfl
      rotate_left
      ·simp only [Act.put, List.setIfInBounds_toArray, List.set_cons_zero, List.set_cons_succ, zm, zn]
       rfl
      refine j4 (jm HT_.out (by kernel_rfl)) ?_
      try go_wp2
      go_roundg k1
      case measure => have := HK1.out; omega
      case rel => exact ⟨(wrap64 (x10_1 + 1)), (x283001_1), (u283001), (by first | rfl | (simp; done) | (simp [*]; done)), H', ⟨by have := HK1.out; omega⟩, ⟨by (with_reducible repeat (first | apply Kd.zw | apply Kd.zx | apply Kd.zz)); exact HO_283001.out⟩, ⟨by (with_reducible repeat (first | refine ze ?_ _ | refine zg ?_ | refine zf ?_ _)); exact BK277.out⟩, ⟨by (with_reducible repeat (first | refine ze ?_ _ | refine zg ?_ | refine zf ?_ _)); exact BK278.out⟩, ⟨by (with_reducible repeat (first | refine ze ?_ _ | refine zg ?_ | refine zf ?_ _)); exact BK282.out⟩, ⟨by repeat (first | (with_reducible first | exact HB.out | apply zc | apply za | apply zb | refine zd ?_ GE277.out | refine zd ?_ GE278.out | refine zd ?_ GE282.out) | exact HB.out)⟩⟩
    ·rw [if_neg c21] at H
     have c21b0 : (t284 == (wrap64 (t280 - t279))) = false := beq_eq_false_iff_ne.mpr c21
     have c21b1 : (t284 != (wrap64 (t280 - t279))) = true := bne_iff_ne.mpr c21
     have H' := Aside0.mk H
     clear H
     have hnb42 := NB282_277.out
     have hnc42 := NB277_282.out
     have hnb43 := NB282_278.out
     have hnc43 := NB278_282.out
     have hcz44_0 : wr.cell? ⟨gb282, 0, none⟩ = some (.int .i64 t281) := (zh BK282.out 0).trans rfl
     have hcz44_1 : wr.cell? ⟨gb282, 1, none⟩ = some (u283001) := (zh BK282.out 1).trans rfl
     have hfz44_0 := zi BK282.out 0
     have hfz44_1 := zi BK282.out 1
     try go_wp2_with (first | ((with_reducible refine zo (f := 40) rfl ?_); refine zL (some 27) rfl rfl Try.func40 (by kernel_rfl) rfl #[.int .i64 t281] rfl (by (try simp only [List.map_toArray, List.map_cons, List.map_nil]); first | done | rfl | (simp only [List.length_drop, List.length_take]; rfl)) ?_; (with_reducible refine (ql.calls t281 t283 _ A18.out).mono ?_); rintro e w' ⟨rfl, ⟨nd, rfl⟩⟩; refine ⟨_, rfl, ?_⟩))
     (try (rw [jN wr]; generalize hq_ : World.drewN wr _ = wr; have n0_ : Aside0 (Kd.R (Kd.int .i64) 3 wr w.heap.size (fun _ => True) u283001 x283001_1) := ⟨by rw [← hq_]; exact (by (with_reducible repeat (first | apply Kd.zw | apply Kd.zx | apply Kd.zz)); exact HO_283001.out)⟩; have n1_ : Aside0 (wr.heap[gb277]? = some (.cells #[.int .i64 a0_0, .slice A0_1 l0_1.length c0_1] 26 (0, 0))) := ⟨by rw [← hq_]; exact (by (with_reducible repeat (first | refine ze ?_ _ | refine zg ?_ | refine zf ?_ _)); exact BK277.out)⟩; have n2_ : Aside0 (wr.heap[gb278]? = some (.cells #[.int .i64 0, .slice none 0 0] 26 (0, 0))) := ⟨by rw [← hq_]; exact (by (with_reducible repeat (first | refine ze ?_ _ | refine zg ?_ | refine zf ?_ _)); exact BK278.out)⟩; have n3_ : Aside0 (wr.heap[gb282]? = some (.cells #[.int .i64 t281, u283001] 26 (0, 0))) := ⟨by rw [← hq_]; exact (by (with_reducible repeat (first | refine ze ?_ _ | refine zg ?_ | refine zf ?_ _)); exact BK282.out)⟩; have n4_ : Aside0 (Below w.heap.size w wr) := ⟨by rw [← hq_]; exact (by repeat (first | (with_reducible first | exact HB.out | apply zc | apply za | apply zb | refine zd ?_ GE277.out | refine zd ?_ GE278.out | refine zd ?_ GE282.out) | exact HB.out))⟩; clear HO_283001 BK277 BK278 BK282 HB hq_; have HO_283001 := n0_; have BK277 := n1_; have BK278 := n2_; have BK282 := n3_; have HB := n4_; clear n0_ n1_ n2_ n3_ n4_; have hczqgb277_0 : wr.cell? ⟨gb277, 0, none⟩ = some (.int .i64 a0_0) := (zh BK277.out 0).trans rfl; have hfzqgb277_0 := zi BK277.out 0; have hczqgb277_1 : wr.cell? ⟨gb277, 1, none⟩ = some (.slice A0_1 l0_1.length c0_1) := (zh BK277.out 1).trans rfl; have hfzqgb277_1 := zi BK277.out 1; have hczqgb278_0 : wr.cell? ⟨gb278, 0, none⟩ = some (.int .i64 0) := (zh BK278.out 0).trans rfl; have hfzqgb278_0 := zi BK278.out 0; have hczqgb278_1 : wr.cell? ⟨gb278, 1, none⟩ = some (.slice none 0 0) := (zh BK278.out 1).trans rfl; have hfzqgb278_1 := zi BK278.out 1; have hczqgb282_0 : wr.cell? ⟨gb282, 0, none⟩ = some (.int .i64 t281) := (zh BK282.out 0).trans rfl; have hfzqgb282_0 := zi BK282.out 0; have hczqgb282_1 : wr.cell? ⟨gb282, 1, none⟩ = some (u283001) := (zh BK282.out 1).trans rfl; have hfzqgb282_1 := zi BK282.out 1))
     have n0_ := Aside0.mk (Kd.zz HO_283001.out)
     have n1_ := Aside0.mk (zg BK277.out)
     have n2_ := Aside0.mk (zg BK278.out)
     have n3_ := Aside0.mk (zg BK282.out)
     have n4_ := Aside0.mk (zb HB.out)
     clear HO_283001
     clear BK277
     clear BK278
     clear BK282
     clear HB
     have HO_283001 := n0_
     have BK277 := n1_
     have BK278 := n2_
     have BK282 := n3_
     have HB := n4_
     clear n0_ n1_ n2_ n3_ n4_
     refine jA (n := 17) (S := fun w' => True) (ds := []) #[false, false, false, false, false, false, false, false, false, false, false, false, false, false, false, false, false] (by kernel_rfl) rfl rfl trivial (fun hHeld => ?_); refine qO zJ.zaC zJ.Yz (fun HT_ HW_ => ?_)
     generalize wr.drew = w45 at HO_283001 BK277 BK278 BK282 HB hHeld ⊢
     refine zE (i := 0) (N := some 31) (v := ?_) (a' := ?_) #[true, false, false, false, false, false, false, false, false, false, false, false, false, false, false, false, false] rfl rfl (zr HT_.out (by kernel_rfl)) (fun _ _ _ h => h) (Or.inl ⟨by rfl, ?_⟩) ?_ ?_
     rotate_left
     ·intro w'
      go_simp
      with_reducible rfl
     rotate_left
     ·simp only [Act.put, List.setIfInBounds_toArray, List.set_cons_zero, List.set_cons_succ, zm, zn]
      rfl
     refine zE (i := 2) (N := some 33) (v := ?_) (a' := ?_) #[true, false, true, false, false, false, false, false, false, false, false, false, false, false, false, false, false] rfl rfl (zr HT_.out (by kernel_rfl)) (fun _ _ _ h => h) (Or.inl ⟨by rfl, ?_⟩) ?_ ?_
     rotate_left
     ·intro w'
      go_simp
      with_reducible rfl
     rotate_left
     ·simp only [Act.put, List.setIfInBounds_toArray, List.set_cons_zero, List.set_cons_succ, zm, zn]
      rfl
     refine jJ (i := 1) (N := some 32) #[true, true, true, false, false, false, false, false, false, false, false, false, false, false, false, false, false] rfl rfl (qM HT_.out (by kernel_rfl)) (by decide) (fun K hK => ?_)
     refine jB Try.func49 (by kernel_rfl) rfl #[.int .i64 x10_1] (by rfl) rfl rfl (by (try simp only [List.map_toArray, List.map_cons, List.map_nil]); first | done | rfl | (simp only [List.length_drop, List.length_take]; rfl)) ?_
     with_reducible refine (qv.calls x10_1 t284 _ A20.out).mono ?_
     rintro e w' ⟨rfl, ⟨nd, rfl⟩⟩
     refine ⟨_, rfl, ?_⟩
     refine hK.out _ _ trivial (fun hHeld => ?_)
     clear hK K
     refine jh (a' := ?_) ?_ ?_
     rotate_left
     ·show Act.put _ (some 32) _ = _
      simp only [Act.put, List.setIfInBounds_toArray, List.set_cons_zero, List.set_cons_succ, zm, zn]
      rfl
     refine zE (i := 3) (N := some 34) (v := ?_) (a' := ?_) #[true, true, true, true, false, false, false, false, false, false, false, false, false, false, false, false, false] rfl rfl (zr HT_.out (by kernel_rfl)) (fun _ _ _ h => h) (Or.inl ⟨by rfl, ?_⟩) ?_ ?_
     rotate_left
     ·intro w'
      go_simp
      with_reducible rfl
     rotate_left
     ·simp only [Act.put, List.setIfInBounds_toArray, List.set_cons_zero, List.set_cons_succ, zm, zn]
      rfl
     refine zE (i := 4) (N := some 35) (v := ?_) (a' := ?_) #[true, true, true, true, true, false, false, false, false, false, false, false, false, false, false, false, false] rfl rfl (zr HT_.out (by kernel_rfl)) (fun _ _ _ h => h) (Or.inl ⟨by rfl, ?_⟩) ?_ ?_
     rotate_left
     ·intro w'
      go_simp
      with_reducible rfl
     rotate_left
     ·simp only [Act.put, List.setIfInBounds_toArray, List.set_cons_zero, List.set_cons_succ, zm, zn]
      rfl
     refine zE (i := 5) (N := some 36) (v := undef) (a' := ?_) #[true, true, true, true, true, true, false, false, false, false, false, false, false, false, false, false, false] rfl rfl (zr HT_.out (by kernel_rfl)) (fun _ _ _ h => h) (Or.inr ⟨by rfl, rfl⟩) ?_ ?_
     rotate_left
     ·simp only [Act.put, List.setIfInBounds_toArray, List.set_cons_zero, List.set_cons_succ, zm, zn]
      rfl
     refine zE (i := 6) (N := some 37) (v := undef) (a' := ?_) #[true, true, true, true, true, true, true, false, false, false, false, false, false, false, false, false, false] rfl rfl (zr HT_.out (by kernel_rfl)) (fun _ _ _ h => h) (Or.inr ⟨by rfl, rfl⟩) ?_ ?_
     rotate_left
     ·simp only [Act.put, List.setIfInBounds_toArray, List.set_cons_zero, List.set_cons_succ, zm, zn]
      rfl
     refine zE (i := 7) (N := some 38) (v := undef) (a' := ?_) #[true, true, true, true, true, true, true, true, false, false, false, false, false, false, false, false, false] rfl rfl (zr HT_.out (by kernel_rfl)) (fun _ _ _ h => h) (Or.inr ⟨by rfl, rfl⟩) ?_ ?_
     rotate_left
     ·simp only [Act.put, List.setIfInBounds_toArray, List.set_cons_zero, List.set_cons_succ, zm, zn]
      rfl
     refine zE (i := 8) (N := some 39) (v := undef) (a' := ?_) #[true, true, true, true, true, true, true, true, true, false, false, false, false, false, false, false, false] rfl rfl (zr HT_.out (by kernel_rfl)) (fun _ _ _ h => h) (Or.inr ⟨by rfl, rfl⟩) ?_ ?_
     rotate_left
     ·simp only [Act.put, List.setIfInBounds_toArray, List.set_cons_zero, List.set_cons_succ, zm, zn]
      rfl
     refine zE (i := 9) (N := some 40) (v := undef) (a' := ?_) #[true, true, true, true, true, true, true, true, true, true, false, false, false, false, false, false, false] rfl rfl (zr HT_.out (by kernel_rfl)) (fun _ _ _ h => h) (Or.inr ⟨by rfl, rfl⟩) ?_ ?_
     rotate_left
     ·simp only [Act.put, List.setIfInBounds_toArray, List.set_cons_zero, List.set_cons_succ, zm, zn]
      rfl
     refine zE (i := 10) (N := some 41) (v := undef) (a' := ?_) #[true, true, true, true, true, true, true, true, true, true, true, false, false, false, false, false, false] rfl rfl (zr HT_.out (by kernel_rfl)) (fun _ _ _ h => h) (Or.inr ⟨by rfl, rfl⟩) ?_ ?_
     rotate_left
     ·simp only [Act.put, List.setIfInBounds_toArray, List.set_cons_zero, List.set_cons_succ, zm, zn]
      rfl
     refine zE (i := 11) (N := some 42) (v := undef) (a' := ?_) #[true, true, true, true, true, true, true, true, true, true, true, true, false, false, false, false, false] rfl rfl (zr HT_.out (by kernel_rfl)) (fun _ _ _ h => h) (Or.inr ⟨by rfl, rfl⟩) ?_ ?_
     rotate_left
     ·simp only [Act.put, List.setIfInBounds_toArray, List.set_cons_zero, List.set_cons_succ, zm, zn]
      rfl
     refine zE (i := 12) (N := some 43) (v := undef) (a' := ?_) #[true, true, true, true, true, true, true, true, true, true, true, true, true, false, false, false, false] rfl rfl (zr HT_.out (by kernel_rfl)) (fun _ _ _ h => h) (Or.inr ⟨by rfl, rfl⟩) ?_ ?_
     rotate_left
     ·simp only [Act.put, List.setIfInBounds_toArray, List.set_cons_zero, List.set_cons_succ, zm, zn]
      rfl
     refine zE (i := 13) (N := some 44) (v := undef) (a' := ?_) #[true, true, true, true, true, true, true, true, true, true, true, true, true, true, false, false, false] rfl rfl (zr HT_.out (by kernel_rfl)) (fun _ _ _ h => h) (Or.inr ⟨by rfl, rfl⟩) ?_ ?_
     rotate_left
     ·simp only [Act.put, List.setIfInBounds_toArray, List.set_cons_zero, List.set_cons_succ, zm, zn]
      rfl
     refine zE (i := 14) (N := some 45) (v := undef) (a' := ?_) #[true, true, true, true, true, true, true, true, true, true, true, true, true, true, true, false, false] rfl rfl (zr HT_.out (by kernel_rfl)) (fun _ _ _ h => h) (Or.inr ⟨by rfl, rfl⟩) ?_ ?_
     rotate_left
     ·simp only [Act.put, List.setIfInBounds_toArray, List.set_cons_zero, List.set_cons_succ, zm, zn]
      rfl
     refine zE (i := 15) (N := some 46) (v := undef) (a' := ?_) #[true, true, true, true, true, true, true, true, true, true, true, true, true, true, true, true, false] rfl rfl (zr HT_.out (by kernel_rfl)) (fun _ _ _ h => h) (Or.inr ⟨by rfl, rfl⟩) ?_ ?_
     rotate_left
     ·simp only [Act.put, List.setIfInBounds_toArray, List.set_cons_zero, List.set_cons_succ, zm, zn]
      rfl
     refine zE (i := 16) (N := some 47) (v := ?_) (a' := ?_) #[true, true, true, true, true, true, true, true, true, true, true, true, true, true, true, true, true] rfl rfl (zr HT_.out (by kernel_rfl)) (fun _ _ _ h => h) (Or.inl ⟨by rfl, ?_⟩) ?_ ?_
     rotate_left
     ·intro w'
      go_simp
      with_reducible rfl
     rotate_left
     ·simp only [Act.put, List.setIfInBounds_toArray, List.set_cons_zero, List.set_cons_succ, zm, zn]
      rfl
     refine j4 (jm HT_.out (by kernel_rfl)) ?_
     try go_wp2
     go_roundg k1
     case measure => have := HK1.out; omega
     case rel => exact ⟨(wrap64 (x10_1 + 1)), (x283001_1), (u283001), (by first | rfl | (simp; done) | (simp [*]; done)), H', ⟨by have := HK1.out; omega⟩, ⟨by (with_reducible repeat (first | apply Kd.zw | apply Kd.zx | apply Kd.zz)); exact HO_283001.out⟩, ⟨by (with_reducible repeat (first | refine ze ?_ _ | refine zg ?_ | refine zf ?_ _)); exact BK277.out⟩, ⟨by (with_reducible repeat (first | refine ze ?_ _ | refine zg ?_ | refine zf ?_ _)); exact BK278.out⟩, ⟨by (with_reducible repeat (first | refine ze ?_ _ | refine zg ?_ | refine zf ?_ _)); exact BK282.out⟩, ⟨by repeat (first | (with_reducible first | exact HB.out | apply zc | apply za | apply zb | refine zd ?_ GE277.out | refine zd ?_ GE278.out | refine zd ?_ GE282.out) | exact HB.out)⟩⟩
   ·rw [if_neg c19] at H
    have c19b0 : decide (x10_1 ≤ t283) = false := decide_eq_false c19
    clear c19
    simp only [Option.some.injEq, Prod.mk.injEq] at H
    obtain ⟨rfl, rfl⟩ := H
    have hnb46 := NB282_277.out
    have hnc46 := NB277_282.out
    have hnb47 := NB282_278.out
    have hnc47 := NB278_282.out
    have hcz48_0 : wr.cell? ⟨gb282, 0, none⟩ = some (.int .i64 t281) := (zh BK282.out 0).trans rfl
    have hcz48_1 : wr.cell? ⟨gb282, 1, none⟩ = some (u283001) := (zh BK282.out 1).trans rfl
    have hfz48_0 := zi BK282.out 0
    have hfz48_1 := zi BK282.out 1
    go_wp2_with (first | ((with_reducible refine zo (f := 40) rfl ?_); refine zL (some 27) rfl rfl Try.func40 (by kernel_rfl) rfl #[.int .i64 t281] rfl (by (try simp only [List.map_toArray, List.map_cons, List.map_nil]); first | done | rfl | (simp only [List.length_drop, List.length_take]; rfl)) ?_; (with_reducible refine (ql.calls t281 t283 _ A18.out).mono ?_); rintro e w' ⟨rfl, ⟨nd, rfl⟩⟩; refine ⟨_, rfl, ?_⟩; (try (rw [jN wr]; generalize hq_ : World.drewN wr _ = wr; have n0_ : Aside0 (Kd.R (Kd.int .i64) 3 wr w.heap.size (fun _ => True) u283001 x283001_1) := ⟨by rw [← hq_]; exact (by (with_reducible repeat (first | apply Kd.zw | apply Kd.zx | apply Kd.zz)); exact HO_283001.out)⟩; have n1_ : Aside0 (wr.heap[gb277]? = some (.cells #[.int .i64 a0_0, .slice A0_1 l0_1.length c0_1] 26 (0, 0))) := ⟨by rw [← hq_]; exact (by (with_reducible repeat (first | refine ze ?_ _ | refine zg ?_ | refine zf ?_ _)); exact BK277.out)⟩; have n2_ : Aside0 (wr.heap[gb278]? = some (.cells #[.int .i64 0, .slice none 0 0] 26 (0, 0))) := ⟨by rw [← hq_]; exact (by (with_reducible repeat (first | refine ze ?_ _ | refine zg ?_ | refine zf ?_ _)); exact BK278.out)⟩; have n3_ : Aside0 (wr.heap[gb282]? = some (.cells #[.int .i64 t281, u283001] 26 (0, 0))) := ⟨by rw [← hq_]; exact (by (with_reducible repeat (first | refine ze ?_ _ | refine zg ?_ | refine zf ?_ _)); exact BK282.out)⟩; have n4_ : Aside0 (Below w.heap.size w wr) := ⟨by rw [← hq_]; exact (by repeat (first | (with_reducible first | exact HB.out | apply zc | apply za | apply zb | refine zd ?_ GE277.out | refine zd ?_ GE278.out | refine zd ?_ GE282.out) | exact HB.out))⟩; clear HO_283001 BK277 BK278 BK282 HB hq_; have HO_283001 := n0_; have BK277 := n1_; have BK278 := n2_; have BK282 := n3_; have HB := n4_; clear n0_ n1_ n2_ n3_ n4_; have hczqgb277_0 : wr.cell? ⟨gb277, 0, none⟩ = some (.int .i64 a0_0) := (zh BK277.out 0).trans rfl; have hfzqgb277_0 := zi BK277.out 0; have hczqgb277_1 : wr.cell? ⟨gb277, 1, none⟩ = some (.slice A0_1 l0_1.length c0_1) := (zh BK277.out 1).trans rfl; have hfzqgb277_1 := zi BK277.out 1; have hczqgb278_0 : wr.cell? ⟨gb278, 0, none⟩ = some (.int .i64 0) := (zh BK278.out 0).trans rfl; have hfzqgb278_0 := zi BK278.out 0; have hczqgb278_1 : wr.cell? ⟨gb278, 1, none⟩ = some (.slice none 0 0) := (zh BK278.out 1).trans rfl; have hfzqgb278_1 := zi BK278.out 1; have hczqgb282_0 : wr.cell? ⟨gb282, 0, none⟩ = some (.int .i64 t281) := (zh BK282.out 0).trans rfl; have hfzqgb282_0 := zi BK282.out 0; have hczqgb282_1 : wr.cell? ⟨gb282, 1, none⟩ = some (u283001) := (zh BK282.out 1).trans rfl; have hfzqgb282_1 := zi BK282.out 1)); have hnb49 := NB278_277.out; have hnc49 := NB277_278.out; have hcz50_0 : wr.cell? ⟨gb278, 0, none⟩ = some (.int .i64 0) := (zh BK278.out 0).trans rfl; have hcz50_1 : wr.cell? ⟨gb278, 1, none⟩ = some (.slice none 0 0) := (zh BK278.out 1).trans rfl; have hfz50_0 := zi BK278.out 0; have hfz50_1 := zi BK278.out 1; obtain ⟨Ao51, co51, eo51⟩ := Kd.qo HO_283001.out; subst eo51))
    refine bodyPost_ret (results_cell_row rfl _ _ gb278 26 #[.int .i64 t281, .slice Ao51 x283001_1.length co51] (0, 0) _ rfl (by (with_reducible repeat (first | refine ze ?_ _ | refine zg ?_ | refine zf ?_ _)); refine zV (cs := #[.int .i64 t281, .slice none 0 0]) ?_ 1 _ rfl; (with_reducible repeat (first | refine ze ?_ _ | refine zg ?_ | refine zf ?_ _)); refine zV (cs := #[.int .i64 0, .slice none 0 0]) ?_ 0 _ rfl; (with_reducible repeat (first | refine ze ?_ _ | refine zg ?_ | refine zf ?_ _)); exact BK278.out) Try.underlying26 rfl (by kernel_rfl)) rfl ?_
    exact ⟨_, by first | rfl | (simp [zt, zu] <;> rfl) | (simp [*, zt, zu] <;> rfl), by (with_reducible repeat (first | apply Kd.zw | apply Kd.zx | apply Kd.zz)); exact Kd.qn (Kd.qx (p := ⟨gb278, 1, none⟩) (Kd.qx (p := ⟨gb278, 0, none⟩) (Kd.qG HO_283001.out BK278.out (by decide)) (fun _ hk => hk.2) (.int .i64 t281)) (fun _ hk => hk.2) (.slice Ao51 x283001_1.length co51)) (fun _ hk => trivial), by repeat (first | (with_reducible first | exact HB.out | apply zc | apply za | apply zb | refine zd ?_ GE277.out | refine zd ?_ GE278.out | refine zd ?_ GE282.out) | exact HB.out)⟩

end Go.Proofs.Ytkmcefhchhahhaa.F
end
section
namespace Go.Proofs.Ytkmcefhchhahhaa.F
open Go.RowKit Go.Proofs.YtkmcefhchhahhaaW.PrintWords Go.Proofs.YtkmcefhchhahhaaW.PrintLast Go.Proofs.YtkmcefhchhahhaaW.PrintMore
attribute [local go_sem] jd q8 ji jj qP qN jc q4   -- for this text's walks alone
set_option linter.unusedVariables false
set_option linter.unusedSimpArgs false

mutual
def zp.j0 : Nat → Bool → Int → List Int → Int → List Int → Option (Int × Int × Bool)
 | 0, _, _, _, _, _ => none
 | k + 1, x17, x584000, x584001, x585000, x585001 => if x17 = true then (some (0, 0, false)) else ((ql.f x584000).bind fun t587 => (zp.l0 k t587 0 x584000 x584001 x585000 x585001))
def zp.l0 : Nat → Int → Int → Int → List Int → Int → List Int → Option (Int × Int × Bool)
 | 0, _, _, _, _, _, _ => none
 | k + 1, x7, x8, x584000, x584001, x585000, x585001 => if x8 ≤ x7 then (zp.l1 k x7 x8 0 x584000 x584001 x585000 x585001) else (some (0, 0, false))
def zp.l1 : Nat → Int → Int → Int → Int → List Int → Int → List Int → Option (Int × Int × Bool)
 | 0, _, _, _, _, _, _, _ => none
 | k + 1, x7, x8, x9, x584000, x584001, x585000, x585001 => if x9 ≤ x7 then (if (Go.bits .and .i64 x8 x9) = 0 then ((qv.f x8).bind fun t588 => ((qv.f x9).bind fun t589 => (zp.j3 k x7 x8 x9 ((wrap64 ((wrap64 (x584000 - t588)) - t589)) != x585000) x584000 x584001 x585000 x585001))) else (zp.j3 k x7 x8 x9 true x584000 x584001 x585000 x585001)) else (zp.l0 k x7 (wrap64 (x8 + 1)) x584000 x584001 x585000 x585001)
def zp.j3 : Nat → Int → Int → Int → Bool → Int → List Int → Int → List Int → Option (Int × Int × Bool)
 | 0, _, _, _, _, _, _, _, _ => none
 | k + 1, x7, x8, x9, x47, x584000, x584001, x585000, x585001 => if x47 = true then (zp.l1 k x7 x8 (wrap64 (x9 + 1)) x584000 x584001 x585000 x585001) else ((zJ.f k x584000 x584001 (Go.bits .andNot .i64 (Go.bits .andNot .i64 x7 x8) x9) x9).bind fun bt590 => ((q2.f k bt590.1 bt590.2 x585000 x585001).bind fun t594 => (if t594 = true then (some (x8, x9, true)) else (zp.l1 k x7 x8 (wrap64 (x9 + 1)) x584000 x584001 x585000 x585001))))
end
def zp.f (k : Nat) (a0_0 : Int) (l0_1 : List Int) (a1_0 : Int) (l1_1 : List Int) : Option (Int × Int × Bool) := (qA.f k a0_0 l0_1).bind fun t585 => (if t585 = true then ((qA.f k a1_0 l1_1).bind fun t586 => (zp.j0 k (!t586) a0_0 l0_1 a1_0 l1_1)) else (zp.j0 k true a0_0 l0_1 a1_0 l1_1))
def zp.T10 : Bool × List (List Nat × List Nat) := (true, [([], []), ([], []), ([0, 1], [0, 1]), ([2], [2]), ([3], [3]), ([4], [4]), ([5, 4], [4, 5]), ([4], [4]), ([7, 4, 4], [4, 7]), ([6, 8, 4], [4, 6, 8]), ([4], [4]), ([10, 8, 4], [4, 10]), ([9, 11, 4], [4, 9, 11]), ([4], [4]), ([13, 4], [4, 13]), ([12, 14, 4], [4, 12, 14]), ([4, 15], [4, 15])])
def zp.B10 : List Nat := [0, 0, 3, 7, 15, 31, 63, 31, 159, 511, 31, 1439, 4095, 31, 8223, 32767, 65535]
theorem zp.JC : j9 .any (opsOf Try.f25 10) = zp.T10 := by kernel_rfl
theorem zp.Z7 : jM zp.T10.2 zp.B10 = true := by kernel_rfl
def zp.T11 : Bool × List (List Nat × List Nat) := (true, [([], []), ([], []), ([], []), ([1, 2], [1, 2]), ([], []), ([3, 4], [3, 4]), ([], []), ([0, 5, 6], [0, 5, 6]), ([], []), ([7, 8, 7], [7, 8])])
def zp.B11 : List Nat := [0, 0, 0, 6, 0, 30, 0, 127, 0, 511]
theorem zp.zan : j9 .any (opsOf Try.f25 11) = zp.T11 := by kernel_rfl
theorem zp.YH : jM zp.T11.2 zp.B11 = true := by kernel_rfl
theorem zp.calls (k : Nat) (a0_0 : Int) (A0_1 : Option Addr) (c0_1 : Nat) (l0_1 : List Int) (a1_0 : Int) (A1_1 : Option Addr) (c1_1 : Nat) (l1_1 : List Int) (r1 : Int) (r2 : Int) (r3 : Bool) (w : World) (hr0_1 : Kd.C (Kd.int .i64) w A0_1 l0_1.length l0_1) (hc0_1 : l0_1.length ≤ c0_1) (hr1_1 : Kd.C (Kd.int .i64) w A1_1 l1_1.length l1_1) (hc1_1 : l1_1.length ≤ c1_1) (h : zp.f k a0_0 l0_1 a1_0 l1_1 = some (r1, r2, r3)) :
  Calls Try.prog 25 #[.agg #[.int .i64 a0_0, .slice A0_1 l0_1.length c0_1], .agg #[.int .i64 a1_0, .slice A1_1 l1_1.length c1_1]] w fun e w' => e = .returned (.tuple #[.int .i64 r1, .int .i64 r2, .bool r3]) ∧ Below w.heap.size w w' := by
 have hu26 := Try.underlying26
 have HR0_1 := Aside0.mk hr0_1
 have HC0_1 := Aside0.mk hc0_1
 clear hr0_1 hc0_1
 have HR1_1 := Aside0.mk hr1_1
 have HC1_1 := Aside0.mk hc1_1
 clear hr1_1 hc1_1
 have HB := Aside0.mk (Below.refl w.heap.size w)
 have H : ((qA.f k a0_0 l0_1).bind fun t585 => (if t585 = true then ((qA.f k a1_0 l1_1).bind fun t586 => (zp.j0 k (!t586) a0_0 l0_1 a1_0 l1_1)) else (zp.j0 k true a0_0 l0_1 a1_0 l1_1))) = some (r1, r2, r3) := h
 clear h
 have HC3 := Aside0.mk H
 clear H
 go_enter Try.func25, Try.ntmps25
 go_upto_region 1 with (first | ((with_reducible refine zD (N := 2) rfl ?_); refine zA ?hg (N := 2) ?hd (cs := #[.int .i64 a0_0, .slice A0_1 l0_1.length c0_1]) (t := 26) ?hr ?_; (case hd => rfl); (case hg => rfl); (case hr => first | (go_simp; done) | (go_simp; rfl)); intro gb583 hg w4 hbox hb; have n0_ := Aside0.mk (zl (by repeat (first | (with_reducible first | exact HB.out | apply zc | apply za | apply zb) | exact HB.out)) hb); have n1_ := Aside0.mk (hbox); have n2_ := Aside0.mk ((by rw [hg]; exact (zk (by repeat (first | (with_reducible first | exact HB.out | apply zc | apply za | apply zb) | exact HB.out))) : w.heap.size ≤ gb583)); have n3_ := Aside0.mk ((by rw [hg]; exact (zk (by repeat (first | (with_reducible first | exact HB.out | apply zc | apply za | apply zb) | exact HB.out))) : w.heap.size ≤ gb583)); clear HB; have HB := n0_; have BK583 := n1_; have GW583 := n2_; have GE583 := n3_; clear n0_ n1_ n2_ n3_; clear hb hbox hg) | ((with_reducible refine zD (N := 3) rfl ?_); refine zA ?hg (N := 3) ?hd (cs := #[.int .i64 a1_0, .slice A1_1 l1_1.length c1_1]) (t := 26) ?hr ?_; (case hd => rfl); (case hg => rfl); (case hr => first | (go_simp; done) | (go_simp; rfl)); intro gb584 hg w5 hbox hb; have n0_ := Aside0.mk (zj (g := gb583) (o := .cells #[.int .i64 a0_0, .slice A0_1 l0_1.length c0_1] 26 (0, 0)) (by (with_reducible repeat (first | refine ze ?_ _ | refine zg ?_ | refine zf ?_ _)); exact BK583.out) hb); have n1_ := Aside0.mk (zl (by repeat (first | (with_reducible first | exact HB.out | apply zc | apply za | apply zb | refine zd ?_ GE583.out) | exact HB.out)) hb); have n2_ := Aside0.mk (hbox); have n3_ := Aside0.mk ((by rw [hg]; exact (zk (by repeat (first | (with_reducible first | exact HB.out | apply zc | apply za | apply zb | refine zd ?_ GE583.out) | exact HB.out))) : w.heap.size ≤ gb584)); have n4_ := Aside0.mk ((by rw [hg]; exact (zk (by repeat (first | (with_reducible first | exact HB.out | apply zc | apply za | apply zb | refine zd ?_ GE583.out) | exact HB.out))) : w.heap.size ≤ gb584)); have n5_ := Aside0.mk ((by rw [hg]; exact Nat.ne_of_lt (zM (g := gb583) (o := .cells #[.int .i64 a0_0, .slice A0_1 l0_1.length c0_1] 26 (0, 0)) (by (with_reducible repeat (first | refine ze ?_ _ | refine zg ?_ | refine zf ?_ _)); exact BK583.out)) : gb583 ≠ gb584)); have n6_ := Aside0.mk ((by rw [hg]; exact Nat.ne_of_gt (zM (g := gb583) (o := .cells #[.int .i64 a0_0, .slice A0_1 l0_1.length c0_1] 26 (0, 0)) (by (with_reducible repeat (first | refine ze ?_ _ | refine zg ?_ | refine zf ?_ _)); exact BK583.out)) : gb584 ≠ gb583)); clear BK583; clear HB; have BK583 := n0_; have HB := n1_; have BK584 := n2_; have GW584 := n3_; have GE584 := n4_; have NB583_584 := n5_; have NB584_583 := n6_; clear n0_ n1_ n2_ n3_ n4_ n5_ n6_; clear hb hbox hg))
 (try simp only [Act.put, List.setIfInBounds_toArray, List.set_cons_zero, List.set_cons_succ])
 go_cut [17] (fun v17 wc => ∃ (kq : Nat) (x17_2 : Bool), v17 = .bool x17_2 ∧ Aside0 (zp.j0 kq x17_2 a0_0 l0_1 a1_0 l1_1 = some (r1, r2, r3)) ∧ Aside0 (kq ≤ k) ∧ Aside0 (wc.heap[gb583]? = some (.cells #[.int .i64 a0_0, (.slice A0_1 l0_1.length c0_1)] 26 (0, 0))) ∧ Aside0 (wc.heap[gb584]? = some (.cells #[.int .i64 a1_0, (.slice A1_1 l1_1.length c1_1)] 26 (0, 0))) ∧ Aside0 (Below w.heap.size w wc))
 case first =>
  have H := HC3.out
  clear HC3
  replace H := Option.bind_eq_some_iff.mp H
  obtain ⟨t585, A60, H⟩ := H
  replace H : (if t585 = true then ((qA.f k a1_0 l1_1).bind fun t586 => (zp.j0 k (!t586) a0_0 l0_1 a1_0 l1_1)) else (zp.j0 k true a0_0 l0_1 a1_0 l1_1)) = some (r1, r2, r3) := H
  have A6 := Aside0.mk A60
  clear A60
  by_cases c7 : t585 = true
  ·subst c7
   have H1 : ((qA.f k a1_0 l1_1).bind fun t586 => (zp.j0 k (!t586) a0_0 l0_1 a1_0 l1_1)) = some (r1, r2, r3) := by rw [if_pos rfl] at H; exact H
   clear H
   have H := H1
   clear H1
   replace H := Option.bind_eq_some_iff.mp H
   obtain ⟨t586, A80, H⟩ := H
   replace H : (zp.j0 k (!t586) a0_0 l0_1 a1_0 l1_1) = some (r1, r2, r3) := H
   have A8 := Aside0.mk A80
   clear A80
   have H' := Aside0.mk H
   clear H
   have hnb9 := NB583_584.out
   have hnc9 := NB584_583.out
   have hcz10_0 : w5.cell? ⟨gb583, 0, none⟩ = some (.int .i64 a0_0) := (zh BK583.out 0).trans rfl
   have hcz10_1 : w5.cell? ⟨gb583, 1, none⟩ = some (.slice A0_1 l0_1.length c0_1) := (zh BK583.out 1).trans rfl
   have hfz10_0 := zi BK583.out 0
   have hfz10_1 := zi BK583.out 1
   go_wp2_with (first | ((with_reducible refine zo (f := 48) rfl ?_); refine zL (some 11) rfl rfl Try.func48 (by kernel_rfl) rfl #[.agg #[.int .i64 a0_0, .slice A0_1 l0_1.length c0_1]] rfl (by (try simp only [List.map_toArray, List.map_cons, List.map_nil]); first | done | rfl | (simp only [List.length_drop, List.length_take]; rfl)) ?_; (with_reducible refine (qA.calls k a0_0 _ _ l0_1 true _ ?side1 ?side2 A6.out).mono ?_); (case side1 => repeat (first | exact (Kd.zG HR0_1.out HB.out) | (with_reducible refine Kd.zI ?_ _) | (with_reducible refine Kd.zH ?_ _) | (with_reducible refine Kd.zP ?_))); (case side2 => exact HC0_1.out); rintro e w11 ⟨rfl, hb⟩; refine ⟨_, rfl, ?_⟩; have n0_ := Aside0.mk (zj (g := gb583) (o := .cells #[.int .i64 a0_0, .slice A0_1 l0_1.length c0_1] 26 (0, 0)) (by (with_reducible repeat (first | refine ze ?_ _ | refine zg ?_ | refine zf ?_ _)); exact BK583.out) hb); have n1_ := Aside0.mk (zj (g := gb584) (o := .cells #[.int .i64 a1_0, .slice A1_1 l1_1.length c1_1] 26 (0, 0)) (by (with_reducible repeat (first | refine ze ?_ _ | refine zg ?_ | refine zf ?_ _)); exact BK584.out) hb); have n2_ := Aside0.mk (zl (by repeat (first | (with_reducible first | exact HB.out | apply zc | apply za | apply zb | refine zd ?_ GE583.out | refine zd ?_ GE584.out) | exact HB.out)) hb); clear BK583; clear BK584; clear HB; have BK583 := n0_; have BK584 := n1_; have HB := n2_; clear n0_ n1_ n2_; (try clear hb); (try clear hb2); (try clear hk); (try clear hi); have hcz12_0 : w11.cell? ⟨gb584, 0, none⟩ = some (.int .i64 a1_0) := (zh BK584.out 0).trans rfl; have hcz12_1 : w11.cell? ⟨gb584, 1, none⟩ = some (.slice A1_1 l1_1.length c1_1) := (zh BK584.out 1).trans rfl; have hfz12_0 := zi BK584.out 0; have hfz12_1 := zi BK584.out 1) | (go_at_call 48; (try simp only [zm, zn]); (with_reducible refine (qA.calls k a1_0 _ _ l1_1 t586 _ ?side1 ?side2 A8.out).mono ?_); (case side1 => repeat (first | exact (Kd.zG HR1_1.out HB.out) | (with_reducible refine Kd.zI ?_ _) | (with_reducible refine Kd.zH ?_ _) | (with_reducible refine Kd.zP ?_))); (case side2 => exact HC1_1.out); rintro e w13 ⟨rfl, hb⟩; have n0_ := Aside0.mk (zj (g := gb583) (o := .cells #[.int .i64 a0_0, .slice A0_1 l0_1.length c0_1] 26 (0, 0)) (by (with_reducible repeat (first | refine ze ?_ _ | refine zg ?_ | refine zf ?_ _)); exact BK583.out) hb); have n1_ := Aside0.mk (zj (g := gb584) (o := .cells #[.int .i64 a1_0, .slice A1_1 l1_1.length c1_1] 26 (0, 0)) (by (with_reducible repeat (first | refine ze ?_ _ | refine zg ?_ | refine zf ?_ _)); exact BK584.out) hb); have n2_ := Aside0.mk (zl (by repeat (first | (with_reducible first | exact HB.out | apply zc | apply za | apply zb | refine zd ?_ GE583.out | refine zd ?_ GE584.out) | exact HB.out)) hb); clear BK583; clear BK584; clear HB; have BK583 := n0_; have BK584 := n1_; have HB := n2_; clear n0_ n1_ n2_; (try clear hb); (try clear hb2); (try clear hk); (try clear hi)))
   go_meet
   case rel => exact ⟨_, (!t586), (by first | rfl | (simp; done) | (simp [*]; done)), H', ⟨by first | omega | exact Nat.le_refl _⟩, ⟨by (with_reducible repeat (first | refine ze ?_ _ | refine zg ?_ | refine zf ?_ _)); exact BK583.out⟩, ⟨by (with_reducible repeat (first | refine ze ?_ _ | refine zg ?_ | refine zf ?_ _)); exact BK584.out⟩, ⟨by repeat (first | (with_reducible first | exact HB.out | apply zc | apply za | apply zb | refine zd ?_ GE583.out | refine zd ?_ GE584.out) | exact HB.out)⟩⟩
  ·replace c7 := Bool.eq_false_iff.mpr c7
   subst c7
   have H1 : (zp.j0 k true a0_0 l0_1 a1_0 l1_1) = some (r1, r2, r3) := by rw [if_neg (show ¬ (false = true) by decide)] at H; exact H
   clear H
   have H := H1
   clear H1
   have H' := Aside0.mk H
   clear H
   have hnb14 := NB583_584.out
   have hnc14 := NB584_583.out
   have hcz15_0 : w5.cell? ⟨gb583, 0, none⟩ = some (.int .i64 a0_0) := (zh BK583.out 0).trans rfl
   have hcz15_1 : w5.cell? ⟨gb583, 1, none⟩ = some (.slice A0_1 l0_1.length c0_1) := (zh BK583.out 1).trans rfl
   have hfz15_0 := zi BK583.out 0
   have hfz15_1 := zi BK583.out 1
   go_wp2_with (first | ((with_reducible refine zo (f := 48) rfl ?_); refine zL (some 11) rfl rfl Try.func48 (by kernel_rfl) rfl #[.agg #[.int .i64 a0_0, .slice A0_1 l0_1.length c0_1]] rfl (by (try simp only [List.map_toArray, List.map_cons, List.map_nil]); first | done | rfl | (simp only [List.length_drop, List.length_take]; rfl)) ?_; (with_reducible refine (qA.calls k a0_0 _ _ l0_1 false _ ?side1 ?side2 A6.out).mono ?_); (case side1 => repeat (first | exact (Kd.zG HR0_1.out HB.out) | (with_reducible refine Kd.zI ?_ _) | (with_reducible refine Kd.zH ?_ _) | (with_reducible refine Kd.zP ?_))); (case side2 => exact HC0_1.out); rintro e w16 ⟨rfl, hb⟩; refine ⟨_, rfl, ?_⟩; have n0_ := Aside0.mk (zj (g := gb583) (o := .cells #[.int .i64 a0_0, .slice A0_1 l0_1.length c0_1] 26 (0, 0)) (by (with_reducible repeat (first | refine ze ?_ _ | refine zg ?_ | refine zf ?_ _)); exact BK583.out) hb); have n1_ := Aside0.mk (zj (g := gb584) (o := .cells #[.int .i64 a1_0, .slice A1_1 l1_1.length c1_1] 26 (0, 0)) (by (with_reducible repeat (first | refine ze ?_ _ | refine zg ?_ | refine zf ?_ _)); exact BK584.out) hb); have n2_ := Aside0.mk (zl (by repeat (first | (with_reducible first | exact HB.out | apply zc | apply za | apply zb | refine zd ?_ GE583.out | refine zd ?_ GE584.out) | exact HB.out)) hb); clear BK583; clear BK584; clear HB; have BK583 := n0_; have BK584 := n1_; have HB := n2_; clear n0_ n1_ n2_; (try clear hb); (try clear hb2); (try clear hk); (try clear hi)))
   go_meet
   case rel => exact ⟨_, (true), (by first | rfl | (simp; done) | (simp [*]; done)), H', ⟨by first | omega | exact Nat.le_refl _⟩, ⟨by (with_reducible repeat (first | refine ze ?_ _ | refine zg ?_ | refine zf ?_ _)); exact BK583.out⟩, ⟨by (with_reducible repeat (first | refine ze ?_ _ | refine zg ?_ | refine zf ?_ _)); exact BK584.out⟩, ⟨by repeat (first | (with_reducible first | exact HB.out | apply zc | apply za | apply zb | refine zd ?_ GE583.out | refine zd ?_ GE584.out) | exact HB.out)⟩⟩
 case rest =>
  clear HC3
  try clear c1
  try clear c2
  try clear p2
  try clear c4
  try clear c7
  try clear c9
  try clear c14
  try clear hcz10_0
  try clear hcz10_1
  try clear hcz12_0
  try clear hcz12_1
  try clear hcz15_0
  try clear hcz15_1
  try clear hfz10_0
  try clear hfz10_1
  try clear hfz12_0
  try clear hfz12_1
  try clear hfz15_0
  try clear hfz15_1
  obtain ⟨kq, x17_2, rfl, HA, HJ2, BK583, BK584, HB⟩ := hcut
  cases kq with
  | zero => exact absurd HA.out (by simp [zp.j0])
  | succ kj2 =>
   have H := HA.out
   clear HA
   simp only [zp.j0] at H
   by_cases c17 : x17_2 = true
   ·subst c17
    have H1 : (some (0, 0, false)) = some (r1, r2, r3) := by rw [if_pos rfl] at H; exact H
    clear H
    have H := H1
    clear H1
    simp only [Option.some.injEq, Prod.mk.injEq] at H
    obtain ⟨rfl, rfl, rfl⟩ := H
    go_wp2
    go_ret3
    exact ⟨by first | rfl | (simp [zt, zu] <;> rfl) | (simp [*, zt, zu] <;> rfl), by repeat (first | (with_reducible first | exact HB.out | apply zc | apply za | apply zb | refine zd ?_ GE583.out | refine zd ?_ GE584.out) | exact HB.out)⟩
   ·replace c17 := Bool.eq_false_iff.mpr c17
    subst c17
    have H1 : ((ql.f a0_0).bind fun t587 => (zp.l0 kj2 t587 0 a0_0 l0_1 a1_0 l1_1)) = some (r1, r2, r3) := by rw [if_neg (show ¬ (false = true) by decide)] at H; exact H
    clear H
    have H := H1
    clear H1
    replace H := Option.bind_eq_some_iff.mp H
    obtain ⟨t587, A180, H⟩ := H
    replace H : (zp.l0 kj2 t587 0 a0_0 l0_1 a1_0 l1_1) = some (r1, r2, r3) := H
    have A18 := Aside0.mk A180
    clear A180
    have H' := Aside0.mk H
    clear H
    have hnb19 := NB583_584.out
    have hnc19 := NB584_583.out
    have hcz20_0 : wc.cell? ⟨gb583, 0, none⟩ = some (.int .i64 a0_0) := (zh BK583.out 0).trans rfl
    have hcz20_1 : wc.cell? ⟨gb583, 1, none⟩ = some (.slice A0_1 l0_1.length c0_1) := (zh BK583.out 1).trans rfl
    have hfz20_0 := zi BK583.out 0
    have hfz20_1 := zi BK583.out 1
    go_wp2_with (first | ((with_reducible refine zo (f := 40) rfl ?_); refine zL (some 20) rfl rfl Try.func40 (by kernel_rfl) rfl #[.int .i64 a0_0] rfl (by (try simp only [List.map_toArray, List.map_cons, List.map_nil]); first | done | rfl | (simp only [List.length_drop, List.length_take]; rfl)) ?_; (with_reducible refine (ql.calls a0_0 t587 _ A18.out).mono ?_); rintro e w' ⟨rfl, ⟨nd, rfl⟩⟩; refine ⟨_, rfl, ?_⟩))
    go_loopg [8] kj2 (fun kq v8 w' => ∃ (x8_2 : Int), v8 = .int .i64 x8_2 ∧ Aside0 (zp.l0 kq t587 x8_2 a0_0 l0_1 a1_0 l1_1 = some (r1, r2, r3)) ∧ Aside0 (kq ≤ kj2) ∧ Aside0 (w'.heap[gb583]? = some (.cells #[.int .i64 a0_0, (.slice A0_1 l0_1.length c0_1)] 26 (0, 0))) ∧ Aside0 (w'.heap[gb584]? = some (.cells #[.int .i64 a1_0, (.slice A1_1 l1_1.length c1_1)] 26 (0, 0))) ∧ Aside0 (Below w.heap.size w w'))
    case atStart => exact ⟨(0), (by first | rfl | (simp; done) | (simp [*]; done)), H', ⟨Nat.le_refl _⟩, ⟨by (with_reducible repeat (first | refine ze ?_ _ | refine zg ?_ | refine zf ?_ _)); exact BK583.out⟩, ⟨by (with_reducible repeat (first | refine ze ?_ _ | refine zg ?_ | refine zf ?_ _)); exact BK584.out⟩, ⟨by repeat (first | (with_reducible first | exact HB.out | apply zc | apply za | apply zb | refine zd ?_ GE583.out | refine zd ?_ GE584.out) | exact HB.out)⟩⟩
    case round =>
     clear H'
     try clear c1
     try clear c2
     try clear p2
     try clear c4
     try clear c7
     try clear c9
     try clear c14
     try clear c17
     try clear c19
     try clear hcz10_0
     try clear hcz10_1
     try clear hcz12_0
     try clear hcz12_1
     try clear hcz15_0
     try clear hcz15_1
     try clear hcz20_0
     try clear hcz20_1
     try clear hfz10_0
     try clear hfz10_1
     try clear hfz12_0
     try clear hfz12_1
     try clear hfz15_0
     try clear hfz15_1
     try clear hfz20_0
     try clear hfz20_1
     try clear p2
     obtain ⟨x8_2, rfl, HA, HK2, BK583, BK584, HB⟩ := hrel
     cases gk with
     | zero => exact absurd HA.out (by simp [zp.l0])
     | succ k2 =>
      have H := HA.out
      clear HA
      simp only [zp.l0] at H
      by_cases c21 : x8_2 ≤ t587
      ·rw [if_pos c21] at H
       have c21b0 : decide (x8_2 ≤ t587) = true := decide_eq_true c21
       clear c21
       have H' := Aside0.mk H
       clear H
       go_wp2
       go_loopg [9] k2 (fun kq v9 w' => ∃ (x9_3 : Int), v9 = .int .i64 x9_3 ∧ Aside0 (zp.l1 kq t587 x8_2 x9_3 a0_0 l0_1 a1_0 l1_1 = some (r1, r2, r3)) ∧ Aside0 (kq ≤ k2) ∧ Aside0 (w'.heap[gb583]? = some (.cells #[.int .i64 a0_0, (.slice A0_1 l0_1.length c0_1)] 26 (0, 0))) ∧ Aside0 (w'.heap[gb584]? = some (.cells #[.int .i64 a1_0, (.slice A1_1 l1_1.length c1_1)] 26 (0, 0))) ∧ Aside0 (Below w.heap.size w w'))
       case atStart => exact ⟨(0), (by first | rfl | (simp; done) | (simp [*]; done)), H', ⟨Nat.le_refl _⟩, ⟨by (with_reducible repeat (first | refine ze ?_ _ | refine zg ?_ | refine zf ?_ _)); exact BK583.out⟩, ⟨by (with_reducible repeat (first | refine ze ?_ _ | refine zg ?_ | refine zf ?_ _)); exact BK584.out⟩, ⟨by repeat (first | (with_reducible first | exact HB.out | apply zc | apply za | apply zb | refine zd ?_ GE583.out | refine zd ?_ GE584.out) | exact HB.out)⟩⟩
       case round =>
        clear H'
        try clear c1
        try clear c2
        try clear p2
        try clear c4
        try clear c7
        try clear c9
        try clear c14
        try clear c17
        try clear c19
        try clear c21
        try clear c21b0
        try clear hcz10_0
        try clear hcz10_1
        try clear hcz12_0
        try clear hcz12_1
        try clear hcz15_0
        try clear hcz15_1
        try clear hcz20_0
        try clear hcz20_1
        try clear hfz10_0
        try clear hfz10_1
        try clear hfz12_0
        try clear hfz12_1
        try clear hfz15_0
        try clear hfz15_1
        try clear hfz20_0
        try clear hfz20_1
        try clear p2
        obtain ⟨x9_3, rfl, HA, HK3, BK583, BK584, HB⟩ := hrel
        cases gk with
        | zero => exact absurd HA.out (by simp [zp.l1])
        | succ k3 =>
         have H := HA.out
         clear HA
         simp only [zp.l1] at H
         by_cases c22 : x9_3 ≤ t587
         ·rw [if_pos c22] at H
          have c22b0 : decide (x9_3 ≤ t587) = true := decide_eq_true c22
          clear c22
          have HC23 := Aside0.mk H
          clear H
          go_upto_region 10 with (fail)
          go_cut [47] (fun v47 wc => ∃ (kq : Nat) (x47_22 : Bool), v47 = .bool x47_22 ∧ Aside0 (zp.j3 kq t587 x8_2 x9_3 x47_22 a0_0 l0_1 a1_0 l1_1 = some (r1, r2, r3)) ∧ Aside0 (kq ≤ k3) ∧ Aside0 (wc.heap[gb583]? = some (.cells #[.int .i64 a0_0, (.slice A0_1 l0_1.length c0_1)] 26 (0, 0))) ∧ Aside0 (wc.heap[gb584]? = some (.cells #[.int .i64 a1_0, (.slice A1_1 l1_1.length c1_1)] 26 (0, 0))) ∧ Aside0 (Below w.heap.size w wc))
          case first =>
           have H := HC23.out
           clear HC23
           by_cases c24 : (Go.bits .and .i64 x8_2 x9_3) = 0
           ·rw [if_pos c24] at H
            have c24b0 : ((Go.bits .and .i64 x8_2 x9_3) == 0) = true := beq_iff_eq.mpr c24
            have c24b1 : ((Go.bits .and .i64 x8_2 x9_3) != 0) = false := bne_eq_false_iff_eq.mpr c24
            clear c24
            (first | rw [c24b0] | (simp only [zm, zn]; rw [c24b0]) | skip)
            replace H := Option.bind_eq_some_iff.mp H
            obtain ⟨t588, A250, H⟩ := H
            replace H : ((qv.f x9_3).bind fun t589 => (zp.j3 k3 t587 x8_2 x9_3 ((wrap64 ((wrap64 (a0_0 - t588)) - t589)) != a1_0) a0_0 l0_1 a1_0 l1_1)) = some (r1, r2, r3) := H
            have A25 := Aside0.mk A250
            clear A250
            replace H := Option.bind_eq_some_iff.mp H
            obtain ⟨t589, A260, H⟩ := H
            replace H : (zp.j3 k3 t587 x8_2 x9_3 ((wrap64 ((wrap64 (a0_0 - t588)) - t589)) != a1_0) a0_0 l0_1 a1_0 l1_1) = some (r1, r2, r3) := H
            have A26 := Aside0.mk A260
            clear A260
            have H' := Aside0.mk H
            clear H
            try go_wp2
            have n0_ := Aside0.mk (zg BK583.out)
            have n1_ := Aside0.mk (zg BK584.out)
            have n2_ := Aside0.mk (zb HB.out)
            clear BK583
            clear BK584
            clear HB
            have BK583 := n0_
            have BK584 := n1_
            have HB := n2_
            clear n0_ n1_ n2_
            refine jA (n := 17) (S := fun w' => w'.cell? ⟨gb583, 0, none⟩ = some (.int .i64 a0_0) ∧ w'.cell? ⟨gb583, 1, none⟩ = some (.slice A0_1 l0_1.length c0_1) ∧ w'.cell? ⟨gb584, 0, none⟩ = some (.int .i64 a1_0) ∧ w'.cell? ⟨gb584, 1, none⟩ = some (.slice A1_1 l1_1.length c1_1)) (ds := []) #[false, false, false, false, false, false, false, false, false, false, false, false, false, false, false, false, false] (by kernel_rfl) rfl rfl ⟨(zh BK583.out 0).trans rfl, (zh BK583.out 1).trans rfl, (zh BK584.out 0).trans rfl, (zh BK584.out 1).trans rfl⟩ (fun hHeld => ?_); refine qO zp.JC zp.Z7 (fun HT_ HW_ => ?_)
            generalize wr.drew = w27 at BK583 BK584 HB hHeld ⊢
            refine zE (i := 0) (N := some 31) (v := ?_) (a' := ?_) #[true, false, false, false, false, false, false, false, false, false, false, false, false, false, false, false, false] rfl rfl (zr HT_.out (by kernel_rfl)) (fun _ _ _ h => h) (Or.inl ⟨by rfl, ?_⟩) ?_ ?_
            rotate_left
            ·intro w'
             go_simp
             with_reducible rfl
            rotate_left
            ·simp only [Act.put, List.setIfInBounds_toArray, List.set_cons_zero, List.set_cons_succ, zm, zn]
             rfl
            refine zE (i := 1) (N := some 32) (v := ?_) (a' := ?_) #[true, true, false, false, false, false, false, false, false, false, false, false, false, false, false, false, false] rfl rfl (zr HT_.out (by kernel_rfl)) (fun _ _ _ h => h) (Or.inl ⟨by rfl, ?_⟩) ?_ ?_
            rotate_left
            ·intro w'
             go_simp
             with_reducible rfl
            rotate_left
            ·simp only [Act.put, List.setIfInBounds_toArray, List.set_cons_zero, List.set_cons_succ, zm, zn]
             rfl
            refine zE (i := 2) (N := some 33) (v := ?_) (a' := ?_) #[true, true, true, false, false, false, false, false, false, false, false, false, false, false, false, false, false] rfl rfl (zr HT_.out (by kernel_rfl)) (fun _ _ _ h => h) (Or.inl ⟨by rfl, ?_⟩) ?_ ?_
            rotate_left
            ·intro w'
             go_simp
             with_reducible rfl
            rotate_left
            ·simp only [Act.put, List.setIfInBounds_toArray, List.set_cons_zero, List.set_cons_succ, zm, zn]
             rfl
            refine zE (i := 3) (N := some 34) (v := ?_) (a' := ?_) #[true, true, true, true, false, false, false, false, false, false, false, false, false, false, false, false, false] rfl rfl (zr HT_.out (by kernel_rfl)) (fun _ _ _ h => h) (Or.inl ⟨by rfl, ?_⟩) ?_ ?_
            rotate_left
            ·intro w'
             go_simp
             with_reducible rfl
            rotate_left
            ·simp only [Act.put, List.setIfInBounds_toArray, List.set_cons_zero, List.set_cons_succ, zm, zn]
             rfl
            refine zE (i := 4) (N := some 35) (v := ?_) (a' := ?_) #[true, true, true, true, true, false, false, false, false, false, false, false, false, false, false, false, false] rfl rfl (zr HT_.out (by kernel_rfl)) (fun _ _ _ h => h) (Or.inl ⟨by rfl, ?_⟩) ?_ ?_
            rotate_left
            ·intro w'
             go_simp
             with_reducible rfl
            rotate_left
            ·simp only [Act.put, List.setIfInBounds_toArray, List.set_cons_zero, List.set_cons_succ, zm, zn]
             rfl
            refine zE (i := 5) (N := some 36) (v := ?_) (a' := ?_) #[true, true, true, true, true, true, false, false, false, false, false, false, false, false, false, false, false] rfl rfl (zr HT_.out (by kernel_rfl)) (fun _ _ _ h => h) (Or.inl ⟨by rfl, ?_⟩) ?_ ?_
            rotate_left
            ·intro w'
             go_simp
             with_reducible rfl
            rotate_left
            ·simp only [Act.put, List.setIfInBounds_toArray, List.set_cons_zero, List.set_cons_succ, zm, zn]
             rfl
            refine zE (i := 7) (N := some 38) (v := ?_) (a' := ?_) #[true, true, true, true, true, true, false, true, false, false, false, false, false, false, false, false, false] rfl rfl (zr HT_.out (by kernel_rfl)) (fun _ _ _ h => h) (Or.inl ⟨by rfl, ?_⟩) ?_ ?_
            rotate_left
            ·intro w'
             go_simp
             with_reducible rfl
            rotate_left
            ·simp only [Act.put, List.setIfInBounds_toArray, List.set_cons_zero, List.set_cons_succ, zm, zn]
             rfl
            refine zE (i := 10) (N := some 41) (v := ?_) (a' := ?_) #[true, true, true, true, true, true, false, true, false, false, true, false, false, false, false, false, false] rfl rfl (zr HT_.out (by kernel_rfl)) (fun _ _ _ h => h) (Or.inl ⟨by rfl, ?_⟩) ?_ ?_
            rotate_left
            ·intro w'
             go_simp
             with_reducible rfl
            rotate_left
            ·simp only [Act.put, List.setIfInBounds_toArray, List.set_cons_zero, List.set_cons_succ, zm, zn]
             rfl
            refine zE (i := 13) (N := some 44) (v := ?_) (a' := ?_) #[true, true, true, true, true, true, false, true, false, false, true, false, false, true, false, false, false] rfl rfl (zr HT_.out (by kernel_rfl)) (fun _ _ _ h => h) (Or.inl ⟨by rfl, ?_⟩) ?_ ?_
            rotate_left
            ·intro w'
             go_simp
             with_reducible rfl
            rotate_left
            ·simp only [Act.put, List.setIfInBounds_toArray, List.set_cons_zero, List.set_cons_succ, zm, zn]
             rfl
            refine jf (i := 6) (N := some 37) (v := ?_) (a' := ?_) #[true, true, true, true, true, true, true, true, false, false, true, false, false, true, false, false, false] rfl rfl (qu HT_.out HW_.out (by kernel_rfl)) (fun _ _ _ h => h) (Or.inl ⟨by rfl, ?_⟩) hHeld ?_ ?_
            rotate_left
            ·rintro w' ⟨s0, s1, s2, s3⟩
             go_simp
             with_reducible rfl
            rotate_left
            ·simp only [Act.put, List.setIfInBounds_toArray, List.set_cons_zero, List.set_cons_succ, zm, zn]
             rfl
            refine jf (i := 14) (N := some 45) (v := ?_) (a' := ?_) #[true, true, true, true, true, true, true, true, false, false, true, false, false, true, true, false, false] rfl rfl (qu HT_.out HW_.out (by kernel_rfl)) (fun _ _ _ h => h) (Or.inl ⟨by rfl, ?_⟩) hHeld ?_ ?_
            rotate_left
            ·rintro w' ⟨s0, s1, s2, s3⟩
             go_simp
             with_reducible rfl
            rotate_left
            ·simp only [Act.put, List.setIfInBounds_toArray, List.set_cons_zero, List.set_cons_succ, zm, zn]
             rfl
            refine jJ (i := 8) (N := some 39) #[true, true, true, true, true, true, true, true, true, false, true, false, false, true, true, false, false] rfl rfl (qM HT_.out (by kernel_rfl)) (by decide) (fun K hK => ?_)
            refine jB Try.func49 (by kernel_rfl) rfl #[.int .i64 x8_2] (by rfl) rfl rfl (by (try simp only [List.map_toArray, List.map_cons, List.map_nil]); first | done | rfl | (simp only [List.length_drop, List.length_take]; rfl)) ?_
            with_reducible refine (qv.calls x8_2 t588 _ A25.out).mono ?_
            rintro e w' ⟨rfl, ⟨nd, rfl⟩⟩
            refine ⟨_, rfl, ?_⟩
            refine hK.out _ _ ⟨(zh BK583.out 0).trans rfl, (zh BK583.out 1).trans rfl, (zh BK584.out 0).trans rfl, (zh BK584.out 1).trans rfl⟩ (fun hHeld => ?_)
            clear hK K
            refine jh (a' := ?_) ?_ ?_
            rotate_left
            ·show Act.put _ (some 39) _ = _
             simp only [Act.put, List.setIfInBounds_toArray, List.set_cons_zero, List.set_cons_succ, zm, zn]
             rfl
            refine zE (i := 9) (N := some 40) (v := ?_) (a' := ?_) #[true, true, true, true, true, true, true, true, true, true, true, false, false, true, true, false, false] rfl rfl (zr HT_.out (by kernel_rfl)) (fun _ _ _ h => h) (Or.inl ⟨by rfl, ?_⟩) ?_ ?_
            rotate_left
            ·intro w'
             go_simp
             with_reducible rfl
            rotate_left
            ·simp only [Act.put, List.setIfInBounds_toArray, List.set_cons_zero, List.set_cons_succ, zm, zn]
             rfl
            refine jJ (i := 11) (N := some 42) #[true, true, true, true, true, true, true, true, true, true, true, true, false, true, true, false, false] rfl rfl (qM HT_.out (by kernel_rfl)) (by decide) (fun K hK => ?_)
            refine jB Try.func49 (by kernel_rfl) rfl #[.int .i64 x9_3] (by rfl) rfl rfl (by (try simp only [List.map_toArray, List.map_cons, List.map_nil]); first | done | rfl | (simp only [List.length_drop, List.length_take]; rfl)) ?_
            with_reducible refine (qv.calls x9_3 t589 _ A26.out).mono ?_
            rintro e w' ⟨rfl, ⟨nd, rfl⟩⟩
            refine ⟨_, rfl, ?_⟩
            refine hK.out _ _ ⟨(zh BK583.out 0).trans rfl, (zh BK583.out 1).trans rfl, (zh BK584.out 0).trans rfl, (zh BK584.out 1).trans rfl⟩ (fun hHeld => ?_)
            clear hK K
            refine jh (a' := ?_) ?_ ?_
            rotate_left
            ·show Act.put _ (some 42) _ = _
             simp only [Act.put, List.setIfInBounds_toArray, List.set_cons_zero, List.set_cons_succ, zm, zn]
             rfl
            refine zE (i := 12) (N := some 43) (v := ?_) (a' := ?_) #[true, true, true, true, true, true, true, true, true, true, true, true, true, true, true, false, false] rfl rfl (zr HT_.out (by kernel_rfl)) (fun _ _ _ h => h) (Or.inl ⟨by rfl, ?_⟩) ?_ ?_
            rotate_left
            ·intro w'
             go_simp
             with_reducible rfl
            rotate_left
            ·simp only [Act.put, List.setIfInBounds_toArray, List.set_cons_zero, List.set_cons_succ, zm, zn]
             rfl
            refine zE (i := 15) (N := some 46) (v := ?_) (a' := ?_) #[true, true, true, true, true, true, true, true, true, true, true, true, true, true, true, true, false] rfl rfl (zr HT_.out (by kernel_rfl)) (fun _ _ _ h => h) (Or.inl ⟨by rfl, ?_⟩) ?_ ?_
            rotate_left
            ·intro w'
             go_simp
             with_reducible rfl
            rotate_left
            ·simp only [Act.put, List.setIfInBounds_toArray, List.set_cons_zero, List.set_cons_succ, zm, zn]
             rfl
            refine zE (i := 16) (N := some 47) (v := ?_) (a' := ?_) #[true, true, true, true, true, true, true, true, true, true, true, true, true, true, true, true, true] rfl rfl (zr HT_.out (by kernel_rfl)) (fun _ _ _ h => h) (Or.inl ⟨by rfl, ?_⟩) ?_ ?_
            rotate_left
            ·intro w'
             go_simp
             with_reducible rfl
            rotate_left
            ·simp only [Act.put, List.setIfInBounds_toArray, List.set_cons_zero, List.set_cons_succ, zm, zn]
             rfl
            refine j4 (jm HT_.out (by kernel_rfl)) ?_
            try go_wp2
            go_meet
            case rel => exact ⟨_, (((wrap64 ((wrap64 (a0_0 - t588)) - t589)) != a1_0)), (by first | rfl | (simp only [zm, zn]; done) | (simp; done) | (simp [*]; done)), H', ⟨by have := HJ2.out; have := HK2.out; have := HK3.out; first | omega | exact Nat.le_refl _⟩, ⟨by (with_reducible repeat (first | refine ze ?_ _ | refine zg ?_ | refine zf ?_ _)); exact BK583.out⟩, ⟨by (with_reducible repeat (first | refine ze ?_ _ | refine zg ?_ | refine zf ?_ _)); exact BK584.out⟩, ⟨by repeat (first | (with_reducible first | exact HB.out | apply zc | apply za | apply zb | refine zd ?_ GE583.out | refine zd ?_ GE584.out) | exact HB.out)⟩⟩
           ·rw [if_neg c24] at H
            have c24b0 : ((Go.bits .and .i64 x8_2 x9_3) == 0) = false := beq_eq_false_iff_ne.mpr c24
            have c24b1 : ((Go.bits .and .i64 x8_2 x9_3) != 0) = true := bne_iff_ne.mpr c24
            (first | rw [c24b0] | (simp only [zm, zn]; rw [c24b0]) | skip)
            have H' := Aside0.mk H
            clear H
            try go_wp2
            have n0_ := Aside0.mk (zg BK583.out)
            have n1_ := Aside0.mk (zg BK584.out)
            have n2_ := Aside0.mk (zb HB.out)
            clear BK583
            clear BK584
            clear HB
            have BK583 := n0_
            have BK584 := n1_
            have HB := n2_
            clear n0_ n1_ n2_
            refine jA (n := 17) (S := fun w' => True) (ds := []) #[false, false, false, false, false, false, false, false, false, false, false, false, false, false, false, false, false] (by kernel_rfl) rfl rfl trivial (fun hHeld => ?_); refine qO zp.JC zp.Z7 (fun HT_ HW_ => ?_)
            generalize wr.drew = w28 at BK583 BK584 HB hHeld ⊢
            refine zE (i := 0) (N := some 31) (v := ?_) (a' := ?_) #[true, false, false, false, false, false, false, false, false, false, false, false, false, false, false, false, false] rfl rfl (zr HT_.out (by kernel_rfl)) (fun _ _ _ h => h) (Or.inl ⟨by rfl, ?_⟩) ?_ ?_
            rotate_left
            ·intro w'
             go_simp
             with_reducible rfl
            rotate_left
            ·simp only [Act.put, List.setIfInBounds_toArray, List.set_cons_zero, List.set_cons_succ, zm, zn]
             rfl
            refine zE (i := 1) (N := some 32) (v := ?_) (a' := ?_) #[true, true, false, false, false, false, false, false, false, false, false, false, false, false, false, false, false] rfl rfl (zr HT_.out (by kernel_rfl)) (fun _ _ _ h => h) (Or.inl ⟨by rfl, ?_⟩) ?_ ?_
            rotate_left
            ·intro w'
             go_simp
             with_reducible rfl
            rotate_left
            ·simp only [Act.put, List.setIfInBounds_toArray, List.set_cons_zero, List.set_cons_succ, zm, zn]
             rfl
            refine zE (i := 2) (N := some 33) (v := ?_) (a' := ?_) #[true, true, true, false, false, false, false, false, false, false, false, false, false, false, false, false, false] rfl rfl (zr HT_.out (by kernel_rfl)) (fun _ _ _ h => h) (Or.inl ⟨by rfl, ?_⟩) ?_ ?_
            rotate_left
            ·intro w'
             go_simp
             with_reducible rfl
            rotate_left
            ·simp only [Act.put, List.setIfInBounds_toArray, List.set_cons_zero, List.set_cons_succ, zm, zn]
             rfl
            refine zE (i := 3) (N := some 34) (v := ?_) (a' := ?_) #[true, true, true, true, false, false, false, false, false, false, false, false, false, false, false, false, false] rfl rfl (zr HT_.out (by kernel_rfl)) (fun _ _ _ h => h) (Or.inl ⟨by rfl, ?_⟩) ?_ ?_
            rotate_left
            ·intro w'
             go_simp
             with_reducible rfl
            rotate_left
            ·simp only [Act.put, List.setIfInBounds_toArray, List.set_cons_zero, List.set_cons_succ, zm, zn]
             rfl
            refine zE (i := 4) (N := some 35) (v := ?_) (a' := ?_) #[true, true, true, true, true, false, false, false, false, false, false, false, false, false, false, false, false] rfl rfl (zr HT_.out (by kernel_rfl)) (fun _ _ _ h => h) (Or.inl ⟨by rfl, ?_⟩) ?_ ?_
            rotate_left
            ·intro w'
             go_simp
             with_reducible rfl
            rotate_left
            ·simp only [Act.put, List.setIfInBounds_toArray, List.set_cons_zero, List.set_cons_succ, zm, zn]
             rfl
            refine zE (i := 5) (N := some 36) (v := undef) (a' := ?_) #[true, true, true, true, true, true, false, false, false, false, false, false, false, false, false, false, false] rfl rfl (zr HT_.out (by kernel_rfl)) (fun _ _ _ h => h) (Or.inr ⟨by rfl, rfl⟩) ?_ ?_
            rotate_left
            ·simp only [Act.put, List.setIfInBounds_toArray, List.set_cons_zero, List.set_cons_succ, zm, zn]
             rfl
            refine zE (i := 6) (N := some 37) (v := undef) (a' := ?_) #[true, true, true, true, true, true, true, false, false, false, false, false, false, false, false, false, false] rfl rfl (zr HT_.out (by kernel_rfl)) (fun _ _ _ h => h) (Or.inr ⟨by rfl, rfl⟩) ?_ ?_
            rotate_left
            ·simp only [Act.put, List.setIfInBounds_toArray, List.set_cons_zero, List.set_cons_succ, zm, zn]
             rfl
            refine zE (i := 7) (N := some 38) (v := undef) (a' := ?_) #[true, true, true, true, true, true, true, true, false, false, false, false, false, false, false, false, false] rfl rfl (zr HT_.out (by kernel_rfl)) (fun _ _ _ h => h) (Or.inr ⟨by rfl, rfl⟩) ?_ ?_
            rotate_left
            ·simp only [Act.put, List.setIfInBounds_toArray, List.set_cons_zero, List.set_cons_succ, zm, zn]
             rfl
            refine zE (i := 8) (N := some 39) (v := undef) (a' := ?_) #[true, true, true, true, true, true, true, true, true, false, false, false, false, false, false, false, false] rfl rfl (zr HT_.out (by kernel_rfl)) (fun _ _ _ h => h) (Or.inr ⟨by rfl, rfl⟩) ?_ ?_
            rotate_left
            ·simp only [Act.put, List.setIfInBounds_toArray, List.set_cons_zero, List.set_cons_succ, zm, zn]
             rfl
            refine zE (i := 9) (N := some 40) (v := undef) (a' := ?_) #[true, true, true, true, true, true, true, true, true, true, false, false, false, false, false, false, false] rfl rfl (zr HT_.out (by kernel_rfl)) (fun _ _ _ h => h) (Or.inr ⟨by rfl, rfl⟩) ?_ ?_
            rotate_left
            ·simp only [Act.put, List.setIfInBounds_toArray, List.set_cons_zero, List.set_cons_succ, zm, zn]
             rfl
            refine zE (i := 10) (N := some 41) (v := undef) (a' := ?_) #[true, true, true, true, true, true, true, true, true, true, true, false, false, false, false, false, false] rfl rfl (zr HT_.out (by kernel_rfl)) (fun _ _ _ h => h) (Or.inr ⟨by rfl, rfl⟩) ?_ ?_
            rotate_left
            ·simp only [Act.put, List.setIfInBounds_toArray, List.set_cons_zero, List.set_cons_succ, zm, zn]
             rfl
            refine zE (i := 11) (N := some 42) (v := undef) (a' := ?_) #[true, true, true, true, true, true, true, true, true, true, true, true, false, false, false, false, false] rfl rfl (zr HT_.out (by kernel_rfl)) (fun _ _ _ h => h) (Or.inr ⟨by rfl, rfl⟩) ?_ ?_
            rotate_left
            ·simp only [Act.put, List.setIfInBounds_toArray, List.set_cons_zero, List.set_cons_succ, zm, zn]
             rfl
            refine zE (i := 12) (N := some 43) (v := undef) (a' := ?_) #[true, true, true, true, true, true, true, true, true, true, true, true, true, false, false, false, false] rfl rfl (zr HT_.out (by kernel_rfl)) (fun _ _ _ h => h) (Or.inr ⟨by rfl, rfl⟩) ?_ ?_
            rotate_left
            ·simp only [Act.put, List.setIfInBounds_toArray, List.set_cons_zero, List.set_cons_succ, zm, zn]
             rfl
            refine zE (i := 13) (N := some 44) (v := undef) (a' := ?_) #[true, true, true, true, true, true, true, true, true, true, true, true, true, true, false, false, false] rfl rfl (zr HT_.out (by kernel_rfl)) (fun _ _ _ h => h) (Or.inr ⟨by rfl, rfl⟩) ?_ ?_
            rotate_left
            ·simp only [Act.put, List.setIfInBounds_toArray, List.set_cons_zero, List.set_cons_succ, zm, zn]
             rfl
            refine zE (i := 14) (N := some 45) (v := undef) (a' := ?_) #[true, true, true, true, true, true, true, true, true, true, true, true, true, true, true, false, false] rfl rfl (zr HT_.out (by kernel_rfl)) (fun _ _ _ h => h) (Or.inr ⟨by rfl, rfl⟩) ?_ ?_
            rotate_left
            ·simp only [Act.put, List.setIfInBounds_toArray, List.set_cons_zero, List.set_cons_succ, zm, zn]
             rfl
            refine zE (i := 15) (N := some 46) (v := undef) (a' := ?_) #[true, true, true, true, true, true, true, true, true, true, true, true, true, true, true, true, false] rfl rfl (zr HT_.out (by kernel_rfl)) (fun _ _ _ h => h) (Or.inr ⟨by rfl, rfl⟩) ?_ ?_
            rotate_left
            ·simp only [Act.put, List.setIfInBounds_toArray, List.set_cons_zero, List.set_cons_succ, zm, zn]
             rfl
            refine zE (i := 16) (N := some 47) (v := ?_) (a' := ?_) #[true, true, true, true, true, true, true, true, true, true, true, true, true, true, true, true, true] rfl rfl (zr HT_.out (by kernel_rfl)) (fun _ _ _ h => h) (Or.inl ⟨by rfl, ?_⟩) ?_ ?_
            rotate_left
            ·intro w'
             go_simp
             with_reducible rfl
            rotate_left
            ·simp only [Act.put, List.setIfInBounds_toArray, List.set_cons_zero, List.set_cons_succ, zm, zn]
             rfl
            refine j4 (jm HT_.out (by kernel_rfl)) ?_
            try go_wp2
            go_meet
            case rel => exact ⟨_, (true), (by first | rfl | (simp; done) | (simp [*]; done)), H', ⟨by have := HJ2.out; have := HK2.out; have := HK3.out; first | omega | exact Nat.le_refl _⟩, ⟨by (with_reducible repeat (first | refine ze ?_ _ | refine zg ?_ | refine zf ?_ _)); exact BK583.out⟩, ⟨by (with_reducible repeat (first | refine ze ?_ _ | refine zg ?_ | refine zf ?_ _)); exact BK584.out⟩, ⟨by repeat (first | (with_reducible first | exact HB.out | apply zc | apply za | apply zb | refine zd ?_ GE583.out | refine zd ?_ GE584.out) | exact HB.out)⟩⟩
          case rest =>
           clear HC23
           try clear c1
           try clear c2
           try clear p2
           try clear c4
           try clear p6
           try clear c7
           try clear c9
           try clear c14
           try clear c17
           try clear c19
           try clear c21
           try clear c21b0
           try clear c22
           try clear c22b0
           try clear c24
           try clear c24b0
           try clear c24b1
           try clear c25
           try clear hcz10_0
           try clear hcz10_1
           try clear hcz12_0
           try clear hcz12_1
           try clear hcz15_0
           try clear hcz15_1
           try clear hcz20_0
           try clear hcz20_1
           try clear hfz10_0
           try clear hfz10_1
           try clear hfz12_0
           try clear hfz12_1
           try clear hfz15_0
           try clear hfz15_1
           try clear hfz20_0
           try clear hfz20_1
           try clear p2
           obtain ⟨kq, x47_22, rfl, HA, HJ22, BK583, BK584, HB⟩ := hcut
           cases kq with
           | zero => exact absurd HA.out (by simp [zp.j3])
           | succ kj22 =>
            have H := HA.out
            clear HA
            simp only [zp.j3] at H
            by_cases c29 : x47_22 = true
            ·subst c29
             have H1 : (zp.l1 kj22 t587 x8_2 (wrap64 (x9_3 + 1)) a0_0 l0_1 a1_0 l1_1) = some (r1, r2, r3) := by rw [if_pos rfl] at H; exact H
             clear H
             have H := H1
             clear H1
             have H' := Aside0.mk H
             clear H
             go_wp2
             go_roundg kj22
             case measure => have := HJ2.out; have := HK2.out; have := HK3.out; have := HJ22.out; omega
             case rel => exact ⟨(wrap64 (x9_3 + 1)), (by first | rfl | (simp; done) | (simp [*]; done)), H', ⟨by have := HJ2.out; have := HK2.out; have := HK3.out; have := HJ22.out; omega⟩, ⟨by (with_reducible repeat (first | refine ze ?_ _ | refine zg ?_ | refine zf ?_ _)); exact BK583.out⟩, ⟨by (with_reducible repeat (first | refine ze ?_ _ | refine zg ?_ | refine zf ?_ _)); exact BK584.out⟩, ⟨by repeat (first | (with_reducible first | exact HB.out | apply zc | apply za | apply zb | refine zd ?_ GE583.out | refine zd ?_ GE584.out) | exact HB.out)⟩⟩
            ·replace c29 := Bool.eq_false_iff.mpr c29
             subst c29
             have H1 : ((zJ.f kj22 a0_0 l0_1 (Go.bits .andNot .i64 (Go.bits .andNot .i64 t587 x8_2) x9_3) x9_3).bind fun bt590 => ((q2.f kj22 bt590.1 bt590.2 a1_0 l1_1).bind fun t594 => (if t594 = true then (some (x8_2, x9_3, true)) else (zp.l1 kj22 t587 x8_2 (wrap64 (x9_3 + 1)) a0_0 l0_1 a1_0 l1_1)))) = some (r1, r2, r3) := by rw [if_neg (show ¬ (false = true) by decide)] at H; exact H
             clear H
             have H := H1
             clear H1
             replace H := Option.bind_eq_some_iff.mp H
             obtain ⟨⟨t590, t591⟩, A300, H⟩ := H
             replace H : ((q2.f kj22 t590 t591 a1_0 l1_1).bind fun t594 => (if t594 = true then (some (x8_2, x9_3, true)) else (zp.l1 kj22 t587 x8_2 (wrap64 (x9_3 + 1)) a0_0 l0_1 a1_0 l1_1))) = some (r1, r2, r3) := H
             have A30 := Aside0.mk A300
             clear A300
             replace H := Option.bind_eq_some_iff.mp H
             obtain ⟨t594, A310, H⟩ := H
             replace H : (if t594 = true then (some (x8_2, x9_3, true)) else (zp.l1 kj22 t587 x8_2 (wrap64 (x9_3 + 1)) a0_0 l0_1 a1_0 l1_1)) = some (r1, r2, r3) := H
             have A31 := Aside0.mk A310
             clear A310
             by_cases c32 : t594 = true
             ·subst c32
              have H1 : (some (x8_2, x9_3, true)) = some (r1, r2, r3) := by rw [if_pos rfl] at H; exact H
              clear H
              have H := H1
              clear H1
              simp only [Option.some.injEq, Prod.mk.injEq] at H
              obtain ⟨rfl, rfl, rfl⟩ := H
              try go_wp2
              have n0_ := Aside0.mk (zg BK583.out)
              have n1_ := Aside0.mk (zg BK584.out)
              have n2_ := Aside0.mk (zb HB.out)
              clear BK583
              clear BK584
              clear HB
              have BK583 := n0_
              have BK584 := n1_
              have HB := n2_
              clear n0_ n1_ n2_
              refine jA (n := 10) (S := fun w' => w'.cell? ⟨gb583, 0, none⟩ = some (.int .i64 a0_0) ∧ w'.cell? ⟨gb583, 1, none⟩ = some (.slice A0_1 l0_1.length c0_1) ∧ w'.cell? ⟨gb584, 0, none⟩ = some (.int .i64 a1_0) ∧ w'.cell? ⟨gb584, 1, none⟩ = some (.slice A1_1 l1_1.length c1_1)) (ds := []) #[false, false, false, false, false, false, false, false, false, false] (by kernel_rfl) rfl rfl ⟨(zh BK583.out 0).trans rfl, (zh BK583.out 1).trans rfl, (zh BK584.out 0).trans rfl, (zh BK584.out 1).trans rfl⟩ (fun hHeld => ?_); refine qO zp.zan zp.YH (fun HT_ HW_ => ?_)
              generalize wc.drew = w33 at BK583 BK584 HB hHeld ⊢
              refine zE (i := 1) (N := some 49) (v := ?_) (a' := ?_) #[false, true, false, false, false, false, false, false, false, false] rfl rfl (zr HT_.out (by kernel_rfl)) (fun _ _ _ h => h) (Or.inl ⟨by rfl, ?_⟩) ?_ ?_
              rotate_left
              ·intro w'
               go_simp
               with_reducible rfl
              rotate_left
              ·simp only [Act.put, List.setIfInBounds_toArray, List.set_cons_zero, List.set_cons_succ, zm, zn]
               rfl
              refine zE (i := 2) (N := some 50) (v := ?_) (a' := ?_) #[false, true, true, false, false, false, false, false, false, false] rfl rfl (zr HT_.out (by kernel_rfl)) (fun _ _ _ h => h) (Or.inl ⟨by rfl, ?_⟩) ?_ ?_
              rotate_left
              ·intro w'
               go_simp
               with_reducible rfl
              rotate_left
              ·simp only [Act.put, List.setIfInBounds_toArray, List.set_cons_zero, List.set_cons_succ, zm, zn]
               rfl
              refine zE (i := 3) (N := some 51) (v := ?_) (a' := ?_) #[false, true, true, true, false, false, false, false, false, false] rfl rfl (zr HT_.out (by kernel_rfl)) (fun _ _ _ h => h) (Or.inl ⟨by rfl, ?_⟩) ?_ ?_
              rotate_left
              ·intro w'
               go_simp
               with_reducible rfl
              rotate_left
              ·simp only [Act.put, List.setIfInBounds_toArray, List.set_cons_zero, List.set_cons_succ, zm, zn]
               rfl
              refine zE (i := 4) (N := some 52) (v := ?_) (a' := ?_) #[false, true, true, true, true, false, false, false, false, false] rfl rfl (zr HT_.out (by kernel_rfl)) (fun _ _ _ h => h) (Or.inl ⟨by rfl, ?_⟩) ?_ ?_
              rotate_left
              ·intro w'
               go_simp
               with_reducible rfl
              rotate_left
              ·simp only [Act.put, List.setIfInBounds_toArray, List.set_cons_zero, List.set_cons_succ, zm, zn]
               rfl
              refine zE (i := 5) (N := some 53) (v := ?_) (a' := ?_) #[false, true, true, true, true, true, false, false, false, false] rfl rfl (zr HT_.out (by kernel_rfl)) (fun _ _ _ h => h) (Or.inl ⟨by rfl, ?_⟩) ?_ ?_
              rotate_left
              ·intro w'
               go_simp
               with_reducible rfl
              rotate_left
              ·simp only [Act.put, List.setIfInBounds_toArray, List.set_cons_zero, List.set_cons_succ, zm, zn]
               rfl
              refine zE (i := 6) (N := some 54) (v := ?_) (a' := ?_) #[false, true, true, true, true, true, true, false, false, false] rfl rfl (zr HT_.out (by kernel_rfl)) (fun _ _ _ h => h) (Or.inl ⟨by rfl, ?_⟩) ?_ ?_
              rotate_left
              ·intro w'
               go_simp
               with_reducible rfl
              rotate_left
              ·simp only [Act.put, List.setIfInBounds_toArray, List.set_cons_zero, List.set_cons_succ, zm, zn]
               rfl
              refine jf (i := 0) (N := some 48) (v := ?_) (a' := ?_) #[true, true, true, true, true, true, true, false, false, false] rfl rfl (qu HT_.out HW_.out (by kernel_rfl)) (fun _ _ _ h => h) (Or.inl ⟨by rfl, ?_⟩) hHeld ?_ ?_
              rotate_left
              ·rintro w' ⟨s0, s1, s2, s3⟩
               go_simp
               with_reducible rfl
              rotate_left
              ·simp only [Act.put, List.setIfInBounds_toArray, List.set_cons_zero, List.set_cons_succ, zm, zn]
               rfl
              refine jf (i := 8) (N := some 56) (v := ?_) (a' := ?_) #[true, true, true, true, true, true, true, false, true, false] rfl rfl (qu HT_.out HW_.out (by kernel_rfl)) (fun _ _ _ h => h) (Or.inl ⟨by rfl, ?_⟩) hHeld ?_ ?_
              rotate_left
              ·rintro w' ⟨s0, s1, s2, s3⟩
               go_simp
               with_reducible rfl
              rotate_left
              ·simp only [Act.put, List.setIfInBounds_toArray, List.set_cons_zero, List.set_cons_succ, zm, zn]
               rfl
              refine jJ (i := 7) (N := some 55) #[true, true, true, true, true, true, true, true, true, false] rfl rfl (qM HT_.out (by kernel_rfl)) (by decide) (fun K hK => ?_)
              refine jB Try.func39 (by kernel_rfl) rfl #[.agg #[.int .i64 a0_0, .slice A0_1 l0_1.length c0_1], .int .i64 (Go.bits .andNot .i64 (Go.bits .andNot .i64 t587 x8_2) x9_3), .int .i64 x9_3] (by rfl) rfl rfl (by (try simp only [List.map_toArray, List.map_cons, List.map_nil]); first | done | rfl | (simp only [List.length_drop, List.length_take]; rfl)) ?_
              with_reducible refine (zJ.calls kj22 a0_0 _ _ l0_1 (Go.bits .andNot .i64 (Go.bits .andNot .i64 t587 x8_2) x9_3) x9_3 t590 t591 _ ?side1 ?side2 A30.out).mono ?_
              (case side1 => repeat (first | exact (Kd.zG HR0_1.out HB.out) | (with_reducible refine Kd.zI ?_ _) | (with_reducible refine Kd.zH ?_ _) | (with_reducible refine Kd.zP ?_)))
              (case side2 => exact HC0_1.out)
              rintro e w34 ⟨v592, rfl, ho0, hb⟩
              refine ⟨_, rfl, ?_⟩
              have n0_ := Aside0.mk (Kd.qB ho0 (zk (by repeat (first | (with_reducible first | exact HB.out | apply zc | apply za | apply zb | refine zd ?_ GE583.out | refine zd ?_ GE584.out) | exact HB.out))))
              have n1_ := Aside0.mk (zj (g := gb583) (o := .cells #[.int .i64 a0_0, .slice A0_1 l0_1.length c0_1] 26 (0, 0)) (by (with_reducible repeat (first | refine ze ?_ _ | refine zg ?_ | refine zf ?_ _)); exact BK583.out) hb)
              have n2_ := Aside0.mk (zj (g := gb584) (o := .cells #[.int .i64 a1_0, .slice A1_1 l1_1.length c1_1] 26 (0, 0)) (by (with_reducible repeat (first | refine ze ?_ _ | refine zg ?_ | refine zf ?_ _)); exact BK584.out) hb)
              have n3_ := Aside0.mk (zl (by repeat (first | (with_reducible first | exact HB.out | apply zc | apply za | apply zb | refine zd ?_ GE583.out | refine zd ?_ GE584.out) | exact HB.out)) hb)
              clear BK583
              clear BK584
              clear HB
              have HO593 := n0_
              have BK583 := n1_
              have BK584 := n2_
              have HB := n3_
              clear n0_ n1_ n2_ n3_
              (try clear hb)
              (try clear hb2)
              (try clear hk)
              (try clear hi)
              (try clear ho0)
              obtain ⟨Ao35, co35, eo35⟩ := Kd.qo HO593.out
              (first | subst eo35 | (injection eo35 with f1_ f2_ f3_; have f4_ := f1_.symm; have f5_ := f3_.symm; clear f1_ f2_ f3_; subst f4_; subst f5_))
              refine hK.out _ _ ⟨(zh BK583.out 0).trans rfl, (zh BK583.out 1).trans rfl, (zh BK584.out 0).trans rfl, (zh BK584.out 1).trans rfl⟩ (fun hHeld => ?_)
              clear hK K
              refine jh (a' := ?_) ?_ ?_
              rotate_left
              ·show Act.put _ (some 55) _ = _
               simp only [Act.put, List.setIfInBounds_toArray, List.set_cons_zero, List.set_cons_succ, zm, zn]
               rfl
              refine jJ (i := 9) (N := some 57) #[true, true, true, true, true, true, true, true, true, true] rfl rfl (qM HT_.out (by kernel_rfl)) (by decide) (fun K hK => ?_)
              refine jB Try.func50 (by kernel_rfl) rfl #[.agg #[.int .i64 t590, .slice Ao35 t591.length co35], .agg #[.int .i64 a1_0, .slice A1_1 l1_1.length c1_1]] (by rfl) rfl rfl (by (try simp only [List.map_toArray, List.map_cons, List.map_nil]); first | done | rfl | (simp only [List.length_drop, List.length_take]; rfl)) ?_
              with_reducible refine (q2.calls kj22 t590 _ _ t591 a1_0 _ _ l1_1 true _ ?side1 ?side2 ?side3 ?side4 A31.out).mono ?_
              (case side1 => repeat (first | exact (Kd.zS HO593.out).2.2 | (with_reducible refine Kd.zI ?_ _) | (with_reducible refine Kd.zH ?_ _) | (with_reducible refine Kd.zP ?_)))
              (case side2 => exact (Kd.zS HO593.out).2.1)
              (case side3 => repeat (first | exact (Kd.zG HR1_1.out HB.out) | (with_reducible refine Kd.zI ?_ _) | (with_reducible refine Kd.zH ?_ _) | (with_reducible refine Kd.zP ?_)))
              (case side4 => exact HC1_1.out)
              rintro e w36 ⟨rfl, hb⟩
              refine ⟨_, rfl, ?_⟩
              have n0_ := Aside0.mk (Kd.qq (by (with_reducible repeat (first | apply Kd.zw | apply Kd.zx | apply Kd.zz)); exact HO593.out) hb)
              have n1_ := Aside0.mk (zj (g := gb583) (o := .cells #[.int .i64 a0_0, .slice A0_1 l0_1.length c0_1] 26 (0, 0)) (by (with_reducible repeat (first | refine ze ?_ _ | refine zg ?_ | refine zf ?_ _)); exact BK583.out) hb)
              have n2_ := Aside0.mk (zj (g := gb584) (o := .cells #[.int .i64 a1_0, .slice A1_1 l1_1.length c1_1] 26 (0, 0)) (by (with_reducible repeat (first | refine ze ?_ _ | refine zg ?_ | refine zf ?_ _)); exact BK584.out) hb)
              have n3_ := Aside0.mk (zl (by repeat (first | (with_reducible first | exact HB.out | apply zc | apply za | apply zb | refine zd ?_ GE583.out | refine zd ?_ GE584.out) | exact HB.out)) hb)
              clear HO593
              clear BK583
              clear BK584
              clear HB
              have HO593 := n0_
              have BK583 := n1_
              have BK584 := n2_
              have HB := n3_
              clear n0_ n1_ n2_ n3_
              (try clear hb)
              (try clear hb2)
              (try clear hk)
              (try clear hi)
              refine hK.out _ _ ⟨(zh BK583.out 0).trans rfl, (zh BK583.out 1).trans rfl, (zh BK584.out 0).trans rfl, (zh BK584.out 1).trans rfl⟩ (fun hHeld => ?_)
              clear hK K
              refine jh (a' := ?_) ?_ ?_
              rotate_left
              ·show Act.put _ (some 57) _ = _
               simp only [Act.put, List.setIfInBounds_toArray, List.set_cons_zero, List.set_cons_succ, zm, zn]
               rfl
              refine j4 (jm HT_.out (by kernel_rfl)) ?_
              try go_wp2
              go_ret3
              exact ⟨by first | rfl | (simp [zt, zu] <;> rfl) | (simp [*, zt, zu] <;> rfl), by repeat (first | (with_reducible first | exact HB.out | apply zc | apply za | apply zb | refine zd ?_ GE583.out | refine zd ?_ GE584.out) | exact HB.out)⟩
             ·replace c32 := Bool.eq_false_iff.mpr c32
              subst c32
              have H1 : (zp.l1 kj22 t587 x8_2 (wrap64 (x9_3 + 1)) a0_0 l0_1 a1_0 l1_1) = some (r1, r2, r3) := by rw [if_neg (show ¬ (false = true) by decide)] at H; exact H
              clear H
              have H := H1
              clear H1
              have H' := Aside0.mk H
              clear H
              try go_wp2
              have n0_ := Aside0.mk (zg BK583.out)
              have n1_ := Aside0.mk (zg BK584.out)
              have n2_ := Aside0.mk (zb HB.out)
              clear BK583
              clear BK584
              clear HB
              have BK583 := n0_
              have BK584 := n1_
              have HB := n2_
              clear n0_ n1_ n2_
              refine jA (n := 10) (S := fun w' => w'.cell? ⟨gb583, 0, none⟩ = some (.int .i64 a0_0) ∧ w'.cell? ⟨gb583, 1, none⟩ = some (.slice A0_1 l0_1.length c0_1) ∧ w'.cell? ⟨gb584, 0, none⟩ = some (.int .i64 a1_0) ∧ w'.cell? ⟨gb584, 1, none⟩ = some (.slice A1_1 l1_1.length c1_1)) (ds := []) #[false, false, false, false, false, false, false, false, false, false] (by kernel_rfl) rfl rfl ⟨(zh BK583.out 0).trans rfl, (zh BK583.out 1).trans rfl, (zh BK584.out 0).trans rfl, (zh BK584.out 1).trans rfl⟩ (fun hHeld => ?_); refine qO zp.zan zp.YH (fun HT_ HW_ => ?_)
              generalize wc.drew = w37 at BK583 BK584 HB hHeld ⊢
              refine zE (i := 1) (N := some 49) (v := ?_) (a' := ?_) #[false, true, false, false, false, false, false, false, false, false] rfl rfl (zr HT_.out (by kernel_rfl)) (fun _ _ _ h => h) (Or.inl ⟨by rfl, ?_⟩) ?_ ?_
              rotate_left
              ·intro w'
               go_simp
               with_reducible rfl
              rotate_left
              ·simp only [Act.put, List.setIfInBounds_toArray, List.set_cons_zero, List.set_cons_succ, zm, zn]
               rfl
              refine zE (i := 2) (N := some 50) (v := ?_) (a' := ?_) #[false, true, true, false, false, false, false, false, false, false] rfl rfl (zr HT_.out (by kernel_rfl)) (fun _ _ _ h => h) (Or.inl ⟨by rfl, ?_⟩) ?_ ?_
              rotate_left
              ·intro w'
               go_simp
               with_reducible rfl
              rotate_left
              ·simp only [Act.put, List.setIfInBounds_toArray, List.set_cons_zero, List.set_cons_succ, zm, zn]
               rfl
              refine zE (i := 3) (N := some 51) (v := ?_) (a' := ?_) #[false, true, true, true, false, false, false, false, false, false] rfl rfl (zr HT_.out (by kernel_rfl)) (fun _ _ _ h => h) (Or.inl ⟨by rfl, ?_⟩) ?_ ?_
              rotate_left
              ·intro w'
               go_simp
               with_reducible rfl
              rotate_left
              ·simp only [Act.put, List.setIfInBounds_toArray, List.set_cons_zero, List.set_cons_succ, zm, zn]
               rfl
              refine zE (i := 4) (N := some 52) (v := ?_) (a' := ?_) #[false, true, true, true, true, false, false, false, false, false] rfl rfl (zr HT_.out (by kernel_rfl)) (fun _ _ _ h => h) (Or.inl ⟨by rfl, ?_⟩) ?_ ?_
              rotate_left
              ·intro w'
               go_simp
               with_reducible rfl
              rotate_left
              ·simp only [Act.put, List.setIfInBounds_toArray, List.set_cons_zero, List.set_cons_succ, zm, zn]
               rfl
              refine zE (i := 5) (N := some 53) (v := ?_) (a' := ?_) #[false, true, true, true, true, true, false, false, false, false] rfl rfl (zr HT_.out (by kernel_rfl)) (fun _ _ _ h => h) (Or.inl ⟨by rfl, ?_⟩) ?_ ?_
              rotate_left
              ·intro w'
               go_simp
               with_reducible rfl
              rotate_left
              ·simp only [Act.put, List.setIfInBounds_toArray, List.set_cons_zero, List.set_cons_succ, zm, zn]
               rfl
              refine zE (i := 6) (N := some 54) (v := ?_) (a' := ?_) #[false, true, true, true, true, true, true, false, false, false] rfl rfl (zr HT_.out (by kernel_rfl)) (fun _ _ _ h => h) (Or.inl ⟨by rfl, ?_⟩) ?_ ?_
              rotate_left
              ·intro w'
               go_simp
               with_reducible rfl
              rotate_left
              ·simp only [Act.put, List.setIfInBounds_toArray, List.set_cons_zero, List.set_cons_succ, zm, zn]
               rfl
              refine jf (i := 0) (N := some 48) (v := ?_) (a' := ?_) #[true, true, true, true, true, true, true, false, false, false] rfl rfl (qu HT_.out HW_.out (by kernel_rfl)) (fun _ _ _ h => h) (Or.inl ⟨by rfl, ?_⟩) hHeld ?_ ?_
              rotate_left
              ·rintro w' ⟨s0, s1, s2, s3⟩
               go_simp
               with_reducible rfl
              rotate_left
              ·simp only [Act.put, List.setIfInBounds_toArray, List.set_cons_zero, List.set_cons_succ, zm, zn]
               rfl
              refine jf (i := 8) (N := some 56) (v := ?_) (a' := ?_) #[true, true, true, true, true, true, true, false, true, false] rfl rfl (qu HT_.out HW_.out (by kernel_rfl)) (fun _ _ _ h => h) (Or.inl ⟨by rfl, ?_⟩) hHeld ?_ ?_
              rotate_left
              ·rintro w' ⟨s0, s1, s2, s3⟩
               go_simp
               with_reducible rfl
              rotate_left
              ·simp only [Act.put, List.setIfInBounds_toArray, List.set_cons_zero, List.set_cons_succ, zm, zn]
               rfl
              refine jJ (i := 7) (N := some 55) #[true, true, true, true, true, true, true, true, true, false] rfl rfl (qM HT_.out (by kernel_rfl)) (by decide) (fun K hK => ?_)
              refine jB Try.func39 (by kernel_rfl) rfl #[.agg #[.int .i64 a0_0, .slice A0_1 l0_1.length c0_1], .int .i64 (Go.bits .andNot .i64 (Go.bits .andNot .i64 t587 x8_2) x9_3), .int .i64 x9_3] (by rfl) rfl rfl (by (try simp only [List.map_toArray, List.map_cons, List.map_nil]); first | done | rfl | (simp only [List.length_drop, List.length_take]; rfl)) ?_
              with_reducible refine (zJ.calls kj22 a0_0 _ _ l0_1 (Go.bits .andNot .i64 (Go.bits .andNot .i64 t587 x8_2) x9_3) x9_3 t590 t591 _ ?side1 ?side2 A30.out).mono ?_
              (case side1 => repeat (first | exact (Kd.zG HR0_1.out HB.out) | (with_reducible refine Kd.zI ?_ _) | (with_reducible refine Kd.zH ?_ _) | (with_reducible refine Kd.zP ?_)))
              (case side2 => exact HC0_1.out)
              rintro e w38 ⟨v592, rfl, ho0, hb⟩
              refine ⟨_, rfl, ?_⟩
              have n0_ := Aside0.mk (Kd.qB ho0 (zk (by repeat (first | (with_reducible first | exact HB.out | apply zc | apply za | apply zb | refine zd ?_ GE583.out | refine zd ?_ GE584.out) | exact HB.out))))
              have n1_ := Aside0.mk (zj (g := gb583) (o := .cells #[.int .i64 a0_0, .slice A0_1 l0_1.length c0_1] 26 (0, 0)) (by (with_reducible repeat (first | refine ze ?_ _ | refine zg ?_ | refine zf ?_ _)); exact BK583.out) hb)
              have n2_ := Aside0.mk (zj (g := gb584) (o := .cells #[.int .i64 a1_0, .slice A1_1 l1_1.length c1_1] 26 (0, 0)) (by (with_reducible repeat (first | refine ze ?_ _ | refine zg ?_ | refine zf ?_ _)); exact BK584.out) hb)
              have n3_ := Aside0.mk (zl (by repeat (first | (with_reducible first | exact HB.out | apply zc | apply za | apply zb | refine zd ?_ GE583.out | refine zd ?_ GE584.out) | exact HB.out)) hb)
              clear BK583
              clear BK584
              clear HB
              have HO593 := n0_
              have BK583 := n1_
              have BK584 := n2_
              have HB := n3_
              clear n0_ n1_ n2_ n3_
              (try clear hb)
              (try clear hb2)
              (try clear hk)
              (try clear hi)
              (try clear ho0)
              obtain ⟨Ao39, co39, eo39⟩ := Kd.qo HO593.out
              (first | subst eo39 | (injection eo39 with f1_ f2_ f3_; have f4_ := f1_.symm; have f5_ := f3_.symm; clear f1_ f2_ f3_; subst f4_; subst f5_))
              refine hK.out _ _ ⟨(zh BK583.out 0).trans rfl, (zh BK583.out 1).trans rfl, (zh BK584.out 0).trans rfl, (zh BK584.out 1).trans rfl⟩ (fun hHeld => ?_)
              clear hK K
              refine jh (a' := ?_) ?_ ?_
              rotate_left
              ·show Act.put _ (some 55) _ = _
               simp only [Act.put, List.setIfInBounds_toArray, List.set_cons_zero, List.set_cons_succ, zm, zn]
               rfl
              refine jJ (i := 9) (N := some 57) #[true, true, true, true, true, true, true, true, true, true] rfl rfl (qM HT_.out (by kernel_rfl)) (by decide) (fun K hK => ?_)
              refine jB Try.func50 (by kernel_rfl) rfl #[.agg #[.int .i64 t590, .slice Ao39 t591.length co39], .agg #[.int .i64 a1_0, .slice A1_1 l1_1.length c1_1]] (by rfl) rfl rfl (by (try simp only [List.map_toArray, List.map_cons, List.map_nil]); first | done | rfl | (simp only [List.length_drop, List.length_take]; rfl)) ?_
              with_reducible refine (q2.calls kj22 t590 _ _ t591 a1_0 _ _ l1_1 false _ ?side1 ?side2 ?side3 ?side4 A31.out).mono ?_
              (case side1 => repeat (first | exact (Kd.zS HO593.out).2.2 | (with_reducible refine Kd.zI ?_ _) | (with_reducible refine Kd.zH ?_ _) | (with_reducible refine Kd.zP ?_)))
              (case side2 => exact (Kd.zS HO593.out).2.1)
              (case side3 => repeat (first | exact (Kd.zG HR1_1.out HB.out) | (with_reducible refine Kd.zI ?_ _) | (with_reducible refine Kd.zH ?_ _) | (with_reducible refine Kd.zP ?_)))
              (case side4 => exact HC1_1.out)
              rintro e w40 ⟨rfl, hb⟩
              refine ⟨_, rfl, ?_⟩
              have n0_ := Aside0.mk (Kd.qq (by (with_reducible repeat (first | apply Kd.zw | apply Kd.zx | apply Kd.zz)); exact HO593.out) hb)
              have n1_ := Aside0.mk (zj (g := gb583) (o := .cells #[.int .i64 a0_0, .slice A0_1 l0_1.length c0_1] 26 (0, 0)) (by (with_reducible repeat (first | refine ze ?_ _ | refine zg ?_ | refine zf ?_ _)); exact BK583.out) hb)
              have n2_ := Aside0.mk (zj (g := gb584) (o := .cells #[.int .i64 a1_0, .slice A1_1 l1_1.length c1_1] 26 (0, 0)) (by (with_reducible repeat (first | refine ze ?_ _ | refine zg ?_ | refine zf ?_ _)); exact BK584.out) hb)
              have n3_ := Aside0.mk (zl (by repeat (first | (with_reducible first | exact HB.out | apply zc | apply za | apply zb | refine zd ?_ GE583.out | refine zd ?_ GE584.out) | exact HB.out)) hb)
              clear HO593
              clear BK583
              clear BK584
              clear HB
              have HO593 := n0_
              have BK583 := n1_
              have BK584 := n2_
              have HB := n3_
              clear n0_ n1_ n2_ n3_
              (try clear hb)
              (try clear hb2)
              (try clear hk)
              (try clear hi)
              refine hK.out _ _ ⟨(zh BK583.out 0).trans rfl, (zh BK583.out 1).trans rfl, (zh BK584.out 0).trans rfl, (zh BK584.out 1).trans rfl⟩ (fun hHeld => ?_)
              clear hK K
              refine jh (a' := ?_) ?_ ?_
              rotate_left
              ·show Act.put _ (some 57) _ = _
               simp only [Act.put, List.setIfInBounds_toArray, List.set_cons_zero, List.set_cons_succ, zm, zn]
               rfl
              refine j4 (jm HT_.out (by kernel_rfl)) ?_
              try go_wp2
              go_roundg kj22
              case measure => have := HJ2.out; have := HK2.out; have := HK3.out; have := HJ22.out; omega
              case rel => exact ⟨(wrap64 (x9_3 + 1)), (by first | rfl | (simp; done) | (simp [*]; done)), H', ⟨by have := HJ2.out; have := HK2.out; have := HK3.out; have := HJ22.out; omega⟩, ⟨by (with_reducible repeat (first | refine ze ?_ _ | refine zg ?_ | refine zf ?_ _)); exact BK583.out⟩, ⟨by (with_reducible repeat (first | refine ze ?_ _ | refine zg ?_ | refine zf ?_ _)); exact BK584.out⟩, ⟨by repeat (first | (with_reducible first | exact HB.out | apply zc | apply za | apply zb | refine zd ?_ GE583.out | refine zd ?_ GE584.out) | exact HB.out)⟩⟩
         ·rw [if_neg c22] at H
          have c22b0 : decide (x9_3 ≤ t587) = false := decide_eq_false c22
          clear c22
          have H' := Aside0.mk H
          clear H
          go_wp2
          go_roundg k3
          case measure => have := HJ2.out; have := HK2.out; have := HK3.out; omega
          case rel => exact ⟨(wrap64 (x8_2 + 1)), (by first | rfl | (simp; done) | (simp [*]; done)), H', ⟨by have := HJ2.out; have := HK2.out; have := HK3.out; omega⟩, ⟨by (with_reducible repeat (first | refine ze ?_ _ | refine zg ?_ | refine zf ?_ _)); exact BK583.out⟩, ⟨by (with_reducible repeat (first | refine ze ?_ _ | refine zg ?_ | refine zf ?_ _)); exact BK584.out⟩, ⟨by repeat (first | (with_reducible first | exact HB.out | apply zc | apply za | apply zb | refine zd ?_ GE583.out | refine zd ?_ GE584.out) | exact HB.out)⟩⟩
      ·rw [if_neg c21] at H
       have c21b0 : decide (x8_2 ≤ t587) = false := decide_eq_false c21
       clear c21
       simp only [Option.some.injEq, Prod.mk.injEq] at H
       obtain ⟨rfl, rfl, rfl⟩ := H
       go_wp2
       go_ret3
       exact ⟨by first | rfl | (simp [zt, zu] <;> rfl) | (simp [*, zt, zu] <;> rfl), by repeat (first | (with_reducible first | exact HB.out | apply zc | apply za | apply zb | refine zd ?_ GE583.out | refine zd ?_ GE584.out) | exact HB.out)⟩

end Go.Proofs.Ytkmcefhchhahhaa.F
end
