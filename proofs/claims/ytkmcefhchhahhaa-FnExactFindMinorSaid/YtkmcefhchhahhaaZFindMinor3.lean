/- Several texts of this session in one: Fx12, Fx15, Fx20, GvFunc, GvFirstFailure. Conditions: as each theorem says. -/
import Derived.Test.YtkmcefhchhahhaaZFindMinor0
import Derived.Test.YtkmcefhchhahhaaZFindMinor2
import Derived.Test.YtkmcefhchhahhaaZFindMinor1
import Derived.Shelf.Abstract
set_option maxHeartbeats 8000000
set_option maxRecDepth 100000
section
namespace Go.Proofs.Ytkmcefhchhahhaa.F
open Go.RowKit Go.Proofs.YtkmcefhchhahhaaW.PrintWords Go.Proofs.YtkmcefhchhahhaaW.PrintLast Go.Proofs.YtkmcefhchhahhaaW.PrintMore
attribute [local go_sem] jd q8 ji jj qP qN jc q4   -- for this text's walks alone
set_option linter.unusedVariables false
set_option linter.unusedSimpArgs false

def zN.l0 : Nat → Int → Int → List Int → Int → Int → List Int → Option (Int × List Int)
 | 0, _, _, _, _, _, _ => none
 | k + 1, x1, x5, x6, x7, x208000, x208001 => if x7 < (x208001.length : Int) then (if 0 ≤ x7 then ((z6.f k (Go.bits .and .i64 (rd x208001 x7) x1)).bind fun t214 => (if t214 = x5 then (if x6.length < 17592186044416 then (zN.l0 k x1 x5 (x6 ++ [wrap64 ((rd x208001 x7) - (Go.bits .and .i64 (rd x208001 x7) x1))]) (wrap64 (x7 + 1)) x208000 x208001) else (none)) else (zN.l0 k x1 x5 x6 (wrap64 (x7 + 1)) x208000 x208001))) else (none)) else ((zZ.f x208000).bind fun t220 => ((qj.f k (wrap64 (t220 - x1)) x6).bind fun bt221 => (some (bt221.1, bt221.2))))
def zN.f (k : Nat) (a0_0 : Int) (l0_1 : List Int) (a1 : Int) : Option (Int × List Int) := (qe.f k a0_0 l0_1 a1).bind fun t209 => (if t209 < 0 then (some (0, ([] : List Int))) else (zN.l0 k a1 t209 (([] : List Int)) 0 a0_0 l0_1))
def zN.T9 : Bool × List (List Nat × List Nat) := (true, [([], []), ([], []), ([1], [1]), ([], []), ([2, 3], [2, 3]), ([4], [4]), ([], []), ([6], [6]), ([], []), ([7, 8], [7, 8]), ([9], [9]), ([], []), ([10, 11], [10, 11]), ([5, 12], [5, 12]), ([13], [13]), ([0, 14], [0, 14]), ([15, 15, 0, 1, 2, 3, 4, 5, 6, 7, 8, 9, 10, 11, 12, 13, 14, 15], [0, 15])])
def zN.B9 : List Nat := [0, 0, 2, 0, 14, 30, 0, 64, 0, 448, 960, 0, 4032, 8190, 16382, 32767, 65535]
theorem zN.tab9 : j9 .any (opsOf Try.f12 9) = zN.T9 := by kernel_rfl
theorem zN.za0 : jM zN.T9.2 zN.B9 = true := by kernel_rfl
theorem zN.calls (k : Nat) (a0_0 : Int) (A0_1 : Option Addr) (c0_1 : Nat) (l0_1 : List Int) (a1 : Int) (r1 : Int) (r2 : List Int) (w : World) (hr0_1 : Kd.C (Kd.int .i64) w A0_1 l0_1.length l0_1) (hc0_1 : l0_1.length ≤ c0_1) (h : zN.f k a0_0 l0_1 a1 = some (r1, r2)) :
  Calls Try.prog 12 #[.agg #[.int .i64 a0_0, .slice A0_1 l0_1.length c0_1], .int .i64 a1] w fun e w' => ∃ v1_ : Value, e = .returned (.agg #[.int .i64 r1, v1_]) ∧ Kd.R (Kd.int .i64) 3 w' w.heap.size (fun _ => True) v1_ r2 ∧ Below w.heap.size w w' := by
 have hu26 := Try.underlying26
 have HR0_1 := Aside0.mk hr0_1
 have HC0_1 := Aside0.mk hc0_1
 clear hr0_1 hc0_1
 have HB := Aside0.mk (Below.refl w.heap.size w)
 have H : ((qe.f k a0_0 l0_1 a1).bind fun t209 => (if t209 < 0 then (some (0, ([] : List Int))) else (zN.l0 k a1 t209 (([] : List Int)) 0 a0_0 l0_1))) = some (r1, r2) := h
 clear h
 replace H := Option.bind_eq_some_iff.mp H
 obtain ⟨t209, A30, H⟩ := H
 replace H : (if t209 < 0 then (some (0, ([] : List Int))) else (zN.l0 k a1 t209 (([] : List Int)) 0 a0_0 l0_1)) = some (r1, r2) := H
 have A3 := Aside0.mk A30
 clear A30
 by_cases c4 : t209 < 0
 ·rw [if_pos c4] at H
  have c4b0 : decide (t209 < 0) = true := decide_eq_true c4
  clear c4
  simp only [Option.some.injEq, Prod.mk.injEq] at H
  obtain ⟨rfl, rfl⟩ := H
  go_enter Try.func12, Try.ntmps12
  go_wp2_with (first | ((with_reducible refine zD (N := 2) rfl ?_); refine zA ?hg (N := 2) ?hd (cs := #[.int .i64 a0_0, .slice A0_1 l0_1.length c0_1]) (t := 26) ?hr ?_; (case hd => rfl); (case hg => rfl); (case hr => first | (go_simp; done) | (go_simp; rfl)); intro gb207 hg w5 hbox hb; have n0_ := Aside0.mk (zl (by repeat (first | (with_reducible first | exact HB.out | apply zc | apply za | apply zb) | exact HB.out)) hb); have n1_ := Aside0.mk (hbox); have n2_ := Aside0.mk ((by rw [hg]; exact (zk (by repeat (first | (with_reducible first | exact HB.out | apply zc | apply za | apply zb) | exact HB.out))) : w.heap.size ≤ gb207)); have n3_ := Aside0.mk ((by rw [hg]; exact (zk (by repeat (first | (with_reducible first | exact HB.out | apply zc | apply za | apply zb) | exact HB.out))) : w.heap.size ≤ gb207)); clear HB; have HB := n0_; have BK207 := n1_; have GW207 := n2_; have GE207 := n3_; clear n0_ n1_ n2_ n3_; clear hb hbox hg) | ((with_reducible refine zD (N := 4) rfl ?_); refine zA ?hg (N := 4) ?hd (cs := #[.int .i64 0, .slice none 0 0]) (t := 26) ?hr ?_; (case hd => rfl); (case hg => rfl); (case hr => first | (go_simp; done) | (go_simp; rfl)); intro gb208 hg w6 hbox hb; have n0_ := Aside0.mk (zj (g := gb207) (o := .cells #[.int .i64 a0_0, .slice A0_1 l0_1.length c0_1] 26 (0, 0)) (by (with_reducible repeat (first | refine ze ?_ _ | refine zg ?_ | refine zf ?_ _)); exact BK207.out) hb); have n1_ := Aside0.mk (zl (by repeat (first | (with_reducible first | exact HB.out | apply zc | apply za | apply zb | refine zd ?_ GE207.out) | exact HB.out)) hb); have n2_ := Aside0.mk (hbox); have n3_ := Aside0.mk ((by rw [hg]; exact (zk (by repeat (first | (with_reducible first | exact HB.out | apply zc | apply za | apply zb | refine zd ?_ GE207.out) | exact HB.out))) : w.heap.size ≤ gb208)); have n4_ := Aside0.mk ((by rw [hg]; exact (zk (by repeat (first | (with_reducible first | exact HB.out | apply zc | apply za | apply zb | refine zd ?_ GE207.out) | exact HB.out))) : w.heap.size ≤ gb208)); have n5_ := Aside0.mk ((by rw [hg]; exact Nat.ne_of_lt (zM (g := gb207) (o := .cells #[.int .i64 a0_0, .slice A0_1 l0_1.length c0_1] 26 (0, 0)) (by (with_reducible repeat (first | refine ze ?_ _ | refine zg ?_ | refine zf ?_ _)); exact BK207.out)) : gb207 ≠ gb208)); have n6_ := Aside0.mk ((by rw [hg]; exact Nat.ne_of_gt (zM (g := gb207) (o := .cells #[.int .i64 a0_0, .slice A0_1 l0_1.length c0_1] 26 (0, 0)) (by (with_reducible repeat (first | refine ze ?_ _ | refine zg ?_ | refine zf ?_ _)); exact BK207.out)) : gb208 ≠ gb207)); clear BK207; clear HB; have BK207 := n0_; have HB := n1_; have BK208 := n2_; have GW208 := n3_; have GE208 := n4_; have NB207_208 := n5_; have NB208_207 := n6_; clear n0_ n1_ n2_ n3_ n4_ n5_ n6_; clear hb hbox hg; have hnb7 := NB207_208.out; have hnc7 := NB208_207.out; have hcz8_0 : w6.cell? ⟨gb207, 0, none⟩ = some (.int .i64 a0_0) := (zh BK207.out 0).trans rfl; have hcz8_1 : w6.cell? ⟨gb207, 1, none⟩ = some (.slice A0_1 l0_1.length c0_1) := (zh BK207.out 1).trans rfl; have hfz8_0 := zi BK207.out 0; have hfz8_1 := zi BK207.out 1) | ((with_reducible refine zo (f := 33) rfl ?_); refine zL (some 10) rfl rfl Try.func33 (by kernel_rfl) rfl #[.agg #[.int .i64 a0_0, .slice A0_1 l0_1.length c0_1], .int .i64 a1] rfl (by (try simp only [List.map_toArray, List.map_cons, List.map_nil]); first | done | rfl | (simp only [List.length_drop, List.length_take]; rfl)) ?_; (with_reducible refine (qe.calls k a0_0 _ _ l0_1 a1 t209 _ ?side1 ?side2 A3.out).mono ?_); (case side1 => repeat (first | exact (Kd.zG HR0_1.out HB.out) | (with_reducible refine Kd.zI ?_ _) | (with_reducible refine Kd.zH ?_ _) | (with_reducible refine Kd.zP ?_))); (case side2 => exact HC0_1.out); rintro e w9 ⟨rfl, hb⟩; refine ⟨_, rfl, ?_⟩; have n0_ := Aside0.mk (zj (g := gb207) (o := .cells #[.int .i64 a0_0, .slice A0_1 l0_1.length c0_1] 26 (0, 0)) (by (with_reducible repeat (first | refine ze ?_ _ | refine zg ?_ | refine zf ?_ _)); exact BK207.out) hb); have n1_ := Aside0.mk (zj (g := gb208) (o := .cells #[.int .i64 0, .slice none 0 0] 26 (0, 0)) (by (with_reducible repeat (first | refine ze ?_ _ | refine zg ?_ | refine zf ?_ _)); exact BK208.out) hb); have n2_ := Aside0.mk (zl (by repeat (first | (with_reducible first | exact HB.out | apply zc | apply za | apply zb | refine zd ?_ GE207.out | refine zd ?_ GE208.out) | exact HB.out)) hb); clear BK207; clear BK208; clear HB; have BK207 := n0_; have BK208 := n1_; have HB := n2_; clear n0_ n1_ n2_; (try clear hb); (try clear hb2); (try clear hk); (try clear hi); have hcz10_0 : w9.cell? ⟨gb208, 0, none⟩ = some (.int .i64 0) := (zh BK208.out 0).trans rfl; have hcz10_1 : w9.cell? ⟨gb208, 1, none⟩ = some (.slice none 0 0) := (zh BK208.out 1).trans rfl; have hfz10_0 := zi BK208.out 0; have hfz10_1 := zi BK208.out 1))
  refine bodyPost_ret (results_cell_row rfl _ _ gb208 26 #[.int .i64 0, .slice none 0 0] (0, 0) _ rfl (by (with_reducible repeat (first | refine ze ?_ _ | refine zg ?_ | refine zf ?_ _)); refine zV (cs := #[.int .i64 0, .slice none 0 0]) ?_ 1 _ rfl; (with_reducible repeat (first | refine ze ?_ _ | refine zg ?_ | refine zf ?_ _)); refine zV (cs := #[.int .i64 0, .slice none 0 0]) ?_ 0 _ rfl; (with_reducible repeat (first | refine ze ?_ _ | refine zg ?_ | refine zf ?_ _)); exact BK208.out) Try.underlying26 rfl (by kernel_rfl)) rfl ?_
  exact ⟨_, by first | rfl | (simp [zt, zu] <;> rfl) | (simp [*, zt, zu] <;> rfl), by first | exact Kd.yE _ _ _ _ _ | exact Kd.Ze _ _ _ _ _ | exact Kd.ZF _ _ _ _ _ | exact Kd.Zw _ _ _ _ _ | exact Kd.Zt _ _ _ _ _, by repeat (first | (with_reducible first | exact HB.out | apply zc | apply za | apply zb | refine zd ?_ GE207.out | refine zd ?_ GE208.out) | exact HB.out)⟩
 ·rw [if_neg c4] at H
  have c4b0 : decide (t209 < 0) = false := decide_eq_false c4
  clear c4
  obtain ⟨y210, hy210⟩ : ∃ y_ : List Int, y_ = (([] : List Int)) := ⟨_, rfl⟩
  replace H : (zN.l0 k a1 t209 y210 0 a0_0 l0_1) = some (r1, r2) := by first | (rw [hy210]; with_reducible exact H) | (have H2_ := (Option.bind_some _ _).symm.trans H; rw [hy210]; with_reducible exact H2_) | (have H2_ := (Option.bind_some _ _).symm.trans H; with_reducible exact H2_) | with_reducible exact H | (rw [hy210]; exact H) | exact H
  have Ny210 := Aside0.mk hy210
  clear hy210
  have H' := Aside0.mk H
  clear H
  go_enter Try.func12, Try.ntmps12
  go_wp2_with (first | ((with_reducible refine zD (N := 2) rfl ?_); refine zA ?hg (N := 2) ?hd (cs := #[.int .i64 a0_0, .slice A0_1 l0_1.length c0_1]) (t := 26) ?hr ?_; (case hd => rfl); (case hg => rfl); (case hr => first | (go_simp; done) | (go_simp; rfl)); intro gb207 hg w11 hbox hb; have n0_ := Aside0.mk (zl (by repeat (first | (with_reducible first | exact HB.out | apply zc | apply za | apply zb) | exact HB.out)) hb); have n1_ := Aside0.mk (hbox); have n2_ := Aside0.mk ((by rw [hg]; exact (zk (by repeat (first | (with_reducible first | exact HB.out | apply zc | apply za | apply zb) | exact HB.out))) : w.heap.size ≤ gb207)); have n3_ := Aside0.mk ((by rw [hg]; exact (zk (by repeat (first | (with_reducible first | exact HB.out | apply zc | apply za | apply zb) | exact HB.out))) : w.heap.size ≤ gb207)); clear HB; have HB := n0_; have BK207 := n1_; have GW207 := n2_; have GE207 := n3_; clear n0_ n1_ n2_ n3_; clear hb hbox hg) | ((with_reducible refine zD (N := 4) rfl ?_); refine zA ?hg (N := 4) ?hd (cs := #[.int .i64 0, .slice none 0 0]) (t := 26) ?hr ?_; (case hd => rfl); (case hg => rfl); (case hr => first | (go_simp; done) | (go_simp; rfl)); intro gb208 hg w12 hbox hb; have n0_ := Aside0.mk (zj (g := gb207) (o := .cells #[.int .i64 a0_0, .slice A0_1 l0_1.length c0_1] 26 (0, 0)) (by (with_reducible repeat (first | refine ze ?_ _ | refine zg ?_ | refine zf ?_ _)); exact BK207.out) hb); have n1_ := Aside0.mk (zl (by repeat (first | (with_reducible first | exact HB.out | apply zc | apply za | apply zb | refine zd ?_ GE207.out) | exact HB.out)) hb); have n2_ := Aside0.mk (hbox); have n3_ := Aside0.mk ((by rw [hg]; exact (zk (by repeat (first | (with_reducible first | exact HB.out | apply zc | apply za | apply zb | refine zd ?_ GE207.out) | exact HB.out))) : w.heap.size ≤ gb208)); have n4_ := Aside0.mk ((by rw [hg]; exact (zk (by repeat (first | (with_reducible first | exact HB.out | apply zc | apply za | apply zb | refine zd ?_ GE207.out) | exact HB.out))) : w.heap.size ≤ gb208)); have n5_ := Aside0.mk ((by rw [hg]; exact Nat.ne_of_lt (zM (g := gb207) (o := .cells #[.int .i64 a0_0, .slice A0_1 l0_1.length c0_1] 26 (0, 0)) (by (with_reducible repeat (first | refine ze ?_ _ | refine zg ?_ | refine zf ?_ _)); exact BK207.out)) : gb207 ≠ gb208)); have n6_ := Aside0.mk ((by rw [hg]; exact Nat.ne_of_gt (zM (g := gb207) (o := .cells #[.int .i64 a0_0, .slice A0_1 l0_1.length c0_1] 26 (0, 0)) (by (with_reducible repeat (first | refine ze ?_ _ | refine zg ?_ | refine zf ?_ _)); exact BK207.out)) : gb208 ≠ gb207)); clear BK207; clear HB; have BK207 := n0_; have HB := n1_; have BK208 := n2_; have GW208 := n3_; have GE208 := n4_; have NB207_208 := n5_; have NB208_207 := n6_; clear n0_ n1_ n2_ n3_ n4_ n5_ n6_; clear hb hbox hg; have hnb13 := NB207_208.out; have hnc13 := NB208_207.out; have hcz14_0 : w12.cell? ⟨gb207, 0, none⟩ = some (.int .i64 a0_0) := (zh BK207.out 0).trans rfl; have hcz14_1 : w12.cell? ⟨gb207, 1, none⟩ = some (.slice A0_1 l0_1.length c0_1) := (zh BK207.out 1).trans rfl; have hfz14_0 := zi BK207.out 0; have hfz14_1 := zi BK207.out 1) | ((with_reducible refine zo (f := 33) rfl ?_); refine zL (some 10) rfl rfl Try.func33 (by kernel_rfl) rfl #[.agg #[.int .i64 a0_0, .slice A0_1 l0_1.length c0_1], .int .i64 a1] rfl (by (try simp only [List.map_toArray, List.map_cons, List.map_nil]); first | done | rfl | (simp only [List.length_drop, List.length_take]; rfl)) ?_; (with_reducible refine (qe.calls k a0_0 _ _ l0_1 a1 t209 _ ?side1 ?side2 A3.out).mono ?_); (case side1 => repeat (first | exact (Kd.zG HR0_1.out HB.out) | (with_reducible refine Kd.zI ?_ _) | (with_reducible refine Kd.zH ?_ _) | (with_reducible refine Kd.zP ?_))); (case side2 => exact HC0_1.out); rintro e w15 ⟨rfl, hb⟩; refine ⟨_, rfl, ?_⟩; have n0_ := Aside0.mk (zj (g := gb207) (o := .cells #[.int .i64 a0_0, .slice A0_1 l0_1.length c0_1] 26 (0, 0)) (by (with_reducible repeat (first | refine ze ?_ _ | refine zg ?_ | refine zf ?_ _)); exact BK207.out) hb); have n1_ := Aside0.mk (zj (g := gb208) (o := .cells #[.int .i64 0, .slice none 0 0] 26 (0, 0)) (by (with_reducible repeat (first | refine ze ?_ _ | refine zg ?_ | refine zf ?_ _)); exact BK208.out) hb); have n2_ := Aside0.mk (zl (by repeat (first | (with_reducible first | exact HB.out | apply zc | apply za | apply zb | refine zd ?_ GE207.out | refine zd ?_ GE208.out) | exact HB.out)) hb); clear BK207; clear BK208; clear HB; have BK207 := n0_; have BK208 := n1_; have HB := n2_; clear n0_ n1_ n2_; (try clear hb); (try clear hb2); (try clear hk); (try clear hi)) | ((with_reducible refine zD (N := 14) rfl ?_); refine Kd.y8 (Kd.int .i64) _ 3 ?hg (N := 14) ?hd (xs := ([] : List Int)) (inner := []) (ok := fun _ => True) (okp := fun _ => True) ?hr ?hp (fun _ hk => hk) trivial (Below.refl _ _) (Nat.le_refl _) (by simp) ?_; (case hd => rfl); (case hg => rfl); (case hr => first | (go_simp; done) | (go_simp; rfl)); (case hp => exact (qX.none _ _)); intro v211 w16 ho17 hb hg_ hnew_; clear hg_ hnew_; (first | rw [← Ny210.out] at ho17 | (simp only [Int.reduceToNat] at ho17; rw [← Ny210.out] at ho17)); have n0_ := Aside0.mk (Kd.qB ho17 (zk (by repeat (first | (with_reducible first | exact HB.out | apply zc | apply za | apply zb | refine zd ?_ GE207.out | refine zd ?_ GE208.out) | exact HB.out)))); have n1_ := Aside0.mk (zj (g := gb207) (o := .cells #[.int .i64 a0_0, .slice A0_1 l0_1.length c0_1] 26 (0, 0)) (by (with_reducible repeat (first | refine ze ?_ _ | refine zg ?_ | refine zf ?_ _)); exact BK207.out) hb); have n2_ := Aside0.mk (zj (g := gb208) (o := .cells #[.int .i64 0, .slice none 0 0] 26 (0, 0)) (by (with_reducible repeat (first | refine ze ?_ _ | refine zg ?_ | refine zf ?_ _)); exact BK208.out) hb); have n3_ := Aside0.mk (zl (by repeat (first | (with_reducible first | exact HB.out | apply zc | apply za | apply zb | refine zd ?_ GE207.out | refine zd ?_ GE208.out) | exact HB.out)) hb); clear BK207; clear BK208; clear HB; have HO212 := n0_; have BK207 := n1_; have BK208 := n2_; have HB := n3_; clear n0_ n1_ n2_ n3_; clear hb ho17))
  go_loopg [6, 7] k (fun kq v6 v7 w' => ∃ (x6_1 : List Int) (x7_1 : Int), v7 = .int .i64 x7_1 ∧ Aside0 (zN.l0 kq a1 t209 x6_1 x7_1 a0_0 l0_1 = some (r1, r2)) ∧ Aside0 (kq ≤ k) ∧ Aside0 (Kd.R (Kd.int .i64) 3 w' w.heap.size (fun _ => True) v6 x6_1) ∧ Aside0 (w'.heap[gb207]? = some (.cells #[.int .i64 a0_0, (.slice A0_1 l0_1.length c0_1)] 26 (0, 0))) ∧ Aside0 (w'.heap[gb208]? = some (.cells #[.int .i64 0, (.slice none 0 0)] 26 (0, 0))) ∧ Aside0 (Below w.heap.size w w'))
  case atStart => exact ⟨(y210), (0), (by first | rfl | (simp; done) | (simp [*]; done)), H', ⟨Nat.le_refl _⟩, ⟨by (with_reducible repeat (first | apply Kd.zw | apply Kd.zx | apply Kd.zz)); exact HO212.out⟩, ⟨by (with_reducible repeat (first | refine ze ?_ _ | refine zg ?_ | refine zf ?_ _)); exact BK207.out⟩, ⟨by (with_reducible repeat (first | refine ze ?_ _ | refine zg ?_ | refine zf ?_ _)); exact BK208.out⟩, ⟨by repeat (first | (with_reducible first | exact HB.out | apply zc | apply za | apply zb | refine zd ?_ GE207.out | refine zd ?_ GE208.out) | exact HB.out)⟩⟩
  case round =>
   clear H'
   try clear c1
   try clear p2
   try clear c3
   try clear c4
   try clear c4b0
   try clear c7
   try clear c12
   try clear c13
   try clear hcz10_0
   try clear hcz10_1
   try clear hcz14_0
   try clear hcz14_1
   try clear hcz8_0
   try clear hcz8_1
   try clear hfz10_0
   try clear hfz10_1
   try clear hfz14_0
   try clear hfz14_1
   try clear hfz8_0
   try clear hfz8_1
   obtain ⟨x6_1, x7_1, rfl, HA, HK1, HO_6, BK207, BK208, HB⟩ := hrel
   cases gk with
   | zero => exact absurd HA.out (by simp [zN.l0])
   | succ k1 =>
    have H := HA.out
    clear HA
    simp only [zN.l0] at H
    by_cases c18 : x7_1 < (l0_1.length : Int)
    ·rw [if_pos c18] at H
     have c18b0 : decide (x7_1 < (l0_1.length : Int)) = true := decide_eq_true c18
     clear c18
     by_cases c19 : 0 ≤ x7_1
     ·rw [if_pos c19] at H
      have c19b0 : decide (0 ≤ x7_1) = true := decide_eq_true c19
      clear c19
      replace H := Option.bind_eq_some_iff.mp H
      obtain ⟨t214, A200, H⟩ := H
      replace H : (if t214 = t209 then (if x6_1.length < 17592186044416 then (zN.l0 k1 a1 t209 (x6_1 ++ [wrap64 ((rd l0_1 x7_1) - (Go.bits .and .i64 (rd l0_1 x7_1) a1))]) (wrap64 (x7_1 + 1)) a0_0 l0_1) else (none)) else (zN.l0 k1 a1 t209 x6_1 (wrap64 (x7_1 + 1)) a0_0 l0_1)) = some (r1, r2) := H
      have A20 := Aside0.mk A200
      clear A200
      by_cases c21 : t214 = t209
      ·rw [if_pos c21] at H
       have c21b0 : (t214 == t209) = true := beq_iff_eq.mpr c21
       have c21b1 : (t214 != t209) = false := bne_eq_false_iff_eq.mpr c21
       clear c21
       by_cases c22 : x6_1.length < 17592186044416
       ·rw [if_pos c22] at H
        have LMc22 := Aside0.mk c22
        clear c22
        obtain ⟨y217, hy217⟩ : ∃ y_ : List Int, y_ = (x6_1 ++ [wrap64 ((rd l0_1 x7_1) - (Go.bits .and .i64 (rd l0_1 x7_1) a1))]) := ⟨_, rfl⟩
        replace H : (zN.l0 k1 a1 t209 y217 (wrap64 (x7_1 + 1)) a0_0 l0_1) = some (r1, r2) := by first | (rw [hy217]; with_reducible exact H) | (have H2_ := (Option.bind_some _ _).symm.trans H; rw [hy217]; with_reducible exact H2_) | (have H2_ := (Option.bind_some _ _).symm.trans H; with_reducible exact H2_) | with_reducible exact H | (rw [hy217]; exact H) | exact H
        have Ny217 := Aside0.mk hy217
        clear hy217
        have H' := Aside0.mk H
        clear H
        have hnb23 := NB207_208.out
        have hnc23 := NB208_207.out
        have hcz24_0 : wr.cell? ⟨gb207, 0, none⟩ = some (.int .i64 a0_0) := (zh BK207.out 0).trans rfl
        have hcz24_1 : wr.cell? ⟨gb207, 1, none⟩ = some (.slice A0_1 l0_1.length c0_1) := (zh BK207.out 1).trans rfl
        have hfz24_0 := zi BK207.out 0
        have hfz24_1 := zi BK207.out 1
        have p213 : 0 ≤ (x7_1 : Int) := of_decide_eq_true (by first | (with_reducible assumption) | assumption)
        have q213 : x7_1 < (l0_1.length : Int) := of_decide_eq_true (by first | (with_reducible assumption) | assumption)
        obtain ⟨ad213, e213, hx213_0⟩ := Kd.qd HR0_1.out x7_1 p213 q213
        cases e213
        replace hx213_0 := (HB.out.cell (World.block_lt_of_cell? w _ hx213_0)).trans hx213_0
        replace p213 := eq_true p213
        replace q213 := eq_true q213
        try go_wp2_with (first | ((with_reducible refine zo (f := 34) rfl ?_); refine zL (some 29) rfl rfl Try.func34 (by kernel_rfl) rfl #[.int .i64 (Go.bits .and .i64 (rd l0_1 x7_1) a1)] rfl (by (try simp only [List.map_toArray, List.map_cons, List.map_nil]); first | done | rfl | (simp only [List.length_drop, List.length_take]; rfl)) ?_; (with_reducible refine (z6.calls k1 (Go.bits .and .i64 (rd l0_1 x7_1) a1) t214 _ A20.out).mono ?_); rintro e w' ⟨rfl, ⟨nd, rfl⟩⟩; refine ⟨_, rfl, ?_⟩))
        (try (rw [jN wr]; generalize hq_ : World.drewN wr _ = wr; have n0_ : Aside0 (Kd.R (Kd.int .i64) 3 wr w.heap.size (fun _ => True) u6 x6_1) := ⟨by rw [← hq_]; exact (by (with_reducible repeat (first | apply Kd.zw | apply Kd.zx | apply Kd.zz)); exact HO_6.out)⟩; have n1_ : Aside0 (wr.heap[gb207]? = some (.cells #[.int .i64 a0_0, .slice (some ad213) l0_1.length c0_1] 26 (0, 0))) := ⟨by rw [← hq_]; exact (by (with_reducible repeat (first | refine ze ?_ _ | refine zg ?_ | refine zf ?_ _)); exact BK207.out)⟩; have n2_ : Aside0 (wr.heap[gb208]? = some (.cells #[.int .i64 0, .slice none 0 0] 26 (0, 0))) := ⟨by rw [← hq_]; exact (by (with_reducible repeat (first | refine ze ?_ _ | refine zg ?_ | refine zf ?_ _)); exact BK208.out)⟩; have n3_ : Aside0 (Below w.heap.size w wr) := ⟨by rw [← hq_]; exact (by repeat (first | (with_reducible first | exact HB.out | apply zc | apply za | apply zb | refine zd ?_ GE207.out | refine zd ?_ GE208.out) | exact HB.out))⟩; clear HO_6 BK207 BK208 HB hq_; have HO_6 := n0_; have BK207 := n1_; have BK208 := n2_; have HB := n3_; clear n0_ n1_ n2_ n3_; have hczqgb207_0 : wr.cell? ⟨gb207, 0, none⟩ = some (.int .i64 a0_0) := (zh BK207.out 0).trans rfl; have hfzqgb207_0 := zi BK207.out 0; have hczqgb207_1 : wr.cell? ⟨gb207, 1, none⟩ = some (.slice (some ad213) l0_1.length c0_1) := (zh BK207.out 1).trans rfl; have hfzqgb207_1 := zi BK207.out 1; have hczqgb208_0 : wr.cell? ⟨gb208, 0, none⟩ = some (.int .i64 0) := (zh BK208.out 0).trans rfl; have hfzqgb208_0 := zi BK208.out 0; have hczqgb208_1 : wr.cell? ⟨gb208, 1, none⟩ = some (.slice none 0 0) := (zh BK208.out 1).trans rfl; have hfzqgb208_1 := zi BK208.out 1))
        have n0_ := Aside0.mk (Kd.zz HO_6.out)
        have n1_ := Aside0.mk (zg BK207.out)
        have n2_ := Aside0.mk (zg BK208.out)
        have n3_ := Aside0.mk (zb HB.out)
        clear HO_6
        clear BK207
        clear BK208
        clear HB
        have HO_6 := n0_
        have BK207 := n1_
        have BK208 := n2_
        have HB := n3_
        clear n0_ n1_ n2_ n3_
        have p215 : 0 ≤ (x7_1 : Int) := of_decide_eq_true (by first | (with_reducible assumption) | assumption)
        have q215 : x7_1 < (l0_1.length : Int) := of_decide_eq_true (by first | (with_reducible assumption) | assumption)
        obtain ⟨ad215, e215, hx215_0⟩ := Kd.qd HR0_1.out x7_1 p215 q215
        have hw215_0 := hx215_0
        obtain rfl : ad213 = ad215 := (by injection e215)
        replace hx215_0 := (HB.out.cell (World.block_lt_of_cell? w _ hx215_0)).trans hx215_0
        replace p215 := eq_true p215
        replace q215 := eq_true q215
        have p216 : 0 ≤ (x7_1 : Int) := of_decide_eq_true (by first | (with_reducible assumption) | assumption)
        have q216 : x7_1 < (l0_1.length : Int) := of_decide_eq_true (by first | (with_reducible assumption) | assumption)
        obtain ⟨ad216, e216, hx216_0⟩ := Kd.qd HR0_1.out x7_1 p216 q216
        have hw216_0 := hx216_0
        obtain rfl : ad213 = ad216 := (by injection e216)
        replace hx216_0 := (HB.out.cell (World.block_lt_of_cell? w _ hx216_0)).trans hx216_0
        replace p216 := eq_true p216
        replace q216 := eq_true q216
        refine jA (n := 17) (S := fun w' => w'.cell? ⟨gb207, 0, none⟩ = some (.int .i64 a0_0) ∧ w'.cell? ⟨gb207, 1, none⟩ = some (.slice (some ad213) l0_1.length c0_1) ∧ w'.cell? (ad213.add (x7_1).toNat) = some (.int .i64 (rd l0_1 x7_1)) ∧ w'.cell? (ad213.add (x7_1).toNat) = some (.int .i64 (rd l0_1 x7_1))) (ds := []) #[false, false, false, false, false, false, false, false, false, false, false, false, false, false, false, false, false] (by kernel_rfl) rfl rfl ⟨(zh BK207.out 0).trans rfl, (zh BK207.out 1).trans rfl, ((HB.out.cell (World.block_lt_of_cell? w _ hw215_0)).trans hw215_0), ((HB.out.cell (World.block_lt_of_cell? w _ hw216_0)).trans hw216_0)⟩ (fun hHeld => ?_); refine qO zN.tab9 zN.za0 (fun HT_ HW_ => ?_)
        generalize wr.drew = w25 at HO_6 BK207 BK208 HB hx215_0 hx216_0 hHeld ⊢
        refine zE (i := 0) (N := some 32) (v := ?_) (a' := ?_) #[true, false, false, false, false, false, false, false, false, false, false, false, false, false, false, false, false] rfl rfl (zr HT_.out (by kernel_rfl)) (fun _ _ _ h => h) (Or.inl ⟨by rfl, ?_⟩) ?_ ?_
        rotate_left
        ·intro w'
         go_simp
         with_reducible rfl
        rotate_left
        ·simp only [Act.put, List.setIfInBounds_toArray, List.set_cons_zero, List.set_cons_succ, zm, zn]
         rfl
        refine zE (i := 1) (N := some 33) (v := ?_) (a' := ?_) #[true, true, false, false, false, false, false, false, false, false, false, false, false, false, false, false, false] rfl rfl (zr HT_.out (by kernel_rfl)) (fun _ _ _ h => h) (Or.inl ⟨by rfl, ?_⟩) ?_ ?_
        rotate_left
        ·intro w'
         go_simp
         with_reducible rfl
        rotate_left
        ·simp only [Act.put, List.setIfInBounds_toArray, List.set_cons_zero, List.set_cons_succ, zm, zn]
         rfl
        refine zE (i := 3) (N := some 35) (v := ?_) (a' := ?_) #[true, true, false, true, false, false, false, false, false, false, false, false, false, false, false, false, false] rfl rfl (zr HT_.out (by kernel_rfl)) (fun _ _ _ h => h) (Or.inl ⟨by rfl, ?_⟩) ?_ ?_
        rotate_left
        ·intro w'
         go_simp
         with_reducible rfl
        rotate_left
        ·simp only [Act.put, List.setIfInBounds_toArray, List.set_cons_zero, List.set_cons_succ, zm, zn]
         rfl
        refine zE (i := 6) (N := some 38) (v := ?_) (a' := ?_) #[true, true, false, true, false, false, true, false, false, false, false, false, false, false, false, false, false] rfl rfl (zr HT_.out (by kernel_rfl)) (fun _ _ _ h => h) (Or.inl ⟨by rfl, ?_⟩) ?_ ?_
        rotate_left
        ·intro w'
         go_simp
         with_reducible rfl
        rotate_left
        ·simp only [Act.put, List.setIfInBounds_toArray, List.set_cons_zero, List.set_cons_succ, zm, zn]
         rfl
        refine zE (i := 8) (N := some 40) (v := ?_) (a' := ?_) #[true, true, false, true, false, false, true, false, true, false, false, false, false, false, false, false, false] rfl rfl (zr HT_.out (by kernel_rfl)) (fun _ _ _ h => h) (Or.inl ⟨by rfl, ?_⟩) ?_ ?_
        rotate_left
        ·intro w'
         go_simp
         with_reducible rfl
        rotate_left
        ·simp only [Act.put, List.setIfInBounds_toArray, List.set_cons_zero, List.set_cons_succ, zm, zn]
         rfl
        refine zE (i := 11) (N := some 43) (v := ?_) (a' := ?_) #[true, true, false, true, false, false, true, false, true, false, false, true, false, false, false, false, false] rfl rfl (zr HT_.out (by kernel_rfl)) (fun _ _ _ h => h) (Or.inl ⟨by rfl, ?_⟩) ?_ ?_
        rotate_left
        ·intro w'
         go_simp
         with_reducible rfl
        rotate_left
        ·simp only [Act.put, List.setIfInBounds_toArray, List.set_cons_zero, List.set_cons_succ, zm, zn]
         rfl
        refine jf (i := 2) (N := some 34) (v := ?_) (a' := ?_) #[true, true, true, true, false, false, true, false, true, false, false, true, false, false, false, false, false] rfl rfl (qu HT_.out HW_.out (by kernel_rfl)) (fun _ _ _ h => h) (Or.inl ⟨by rfl, ?_⟩) hHeld ?_ ?_
        rotate_left
        ·rintro w' ⟨s0, s1, s2, s3⟩
         go_simp
         with_reducible rfl
        rotate_left
        ·simp only [Act.put, List.setIfInBounds_toArray, List.set_cons_zero, List.set_cons_succ, zm, zn]
         rfl
        refine zE (i := 4) (N := some 36) (v := ?_) (a' := ?_) #[true, true, true, true, true, false, true, false, true, false, false, true, false, false, false, false, false] rfl rfl (zr HT_.out (by kernel_rfl)) (fun _ _ _ h => h) (Or.inl ⟨by rfl, ?_⟩) ?_ ?_
        rotate_left
        ·intro w'
         go_simp
         with_reducible rfl
        rotate_left
        ·simp only [Act.put, List.setIfInBounds_toArray, List.set_cons_zero, List.set_cons_succ, zm, zn]
         rfl
        refine jf (i := 5) (N := some 37) (v := ?_) (a' := ?_) #[true, true, true, true, true, true, true, false, true, false, false, true, false, false, false, false, false] rfl rfl (qu HT_.out HW_.out (by kernel_rfl)) (fun _ _ _ h => h) (Or.inl ⟨by rfl, ?_⟩) hHeld ?_ ?_
        rotate_left
        ·rintro w' ⟨s0, s1, s2, s3⟩
         go_simp
         with_reducible rfl
        rotate_left
        ·simp only [Act.put, List.setIfInBounds_toArray, List.set_cons_zero, List.set_cons_succ, zm, zn]
         rfl
        refine jf (i := 7) (N := some 39) (v := ?_) (a' := ?_) #[true, true, true, true, true, true, true, true, true, false, false, true, false, false, false, false, false] rfl rfl (qu HT_.out HW_.out (by kernel_rfl)) (fun _ _ _ h => h) (Or.inl ⟨by rfl, ?_⟩) hHeld ?_ ?_
        rotate_left
        ·rintro w' ⟨s0, s1, s2, s3⟩
         go_simp
         with_reducible rfl
        rotate_left
        ·simp only [Act.put, List.setIfInBounds_toArray, List.set_cons_zero, List.set_cons_succ, zm, zn]
         rfl
        refine zE (i := 9) (N := some 41) (v := ?_) (a' := ?_) #[true, true, true, true, true, true, true, true, true, true, false, true, false, false, false, false, false] rfl rfl (zr HT_.out (by kernel_rfl)) (fun _ _ _ h => h) (Or.inl ⟨by rfl, ?_⟩) ?_ ?_
        rotate_left
        ·intro w'
         go_simp
         with_reducible rfl
        rotate_left
        ·simp only [Act.put, List.setIfInBounds_toArray, List.set_cons_zero, List.set_cons_succ, zm, zn]
         rfl
        refine jf (i := 10) (N := some 42) (v := ?_) (a' := ?_) #[true, true, true, true, true, true, true, true, true, true, true, true, false, false, false, false, false] rfl rfl (qu HT_.out HW_.out (by kernel_rfl)) (fun _ _ _ h => h) (Or.inl ⟨by rfl, ?_⟩) hHeld ?_ ?_
        rotate_left
        ·rintro w' ⟨s0, s1, s2, s3⟩
         go_simp
         with_reducible rfl
        rotate_left
        ·simp only [Act.put, List.setIfInBounds_toArray, List.set_cons_zero, List.set_cons_succ, zm, zn]
         rfl
        refine zE (i := 12) (N := some 44) (v := ?_) (a' := ?_) #[true, true, true, true, true, true, true, true, true, true, true, true, true, false, false, false, false] rfl rfl (zr HT_.out (by kernel_rfl)) (fun _ _ _ h => h) (Or.inl ⟨by rfl, ?_⟩) ?_ ?_
        rotate_left
        ·intro w'
         go_simp
         with_reducible rfl
        rotate_left
        ·simp only [Act.put, List.setIfInBounds_toArray, List.set_cons_zero, List.set_cons_succ, zm, zn]
         rfl
        refine zE (i := 13) (N := some 45) (v := ?_) (a' := ?_) #[true, true, true, true, true, true, true, true, true, true, true, true, true, true, false, false, false] rfl rfl (zr HT_.out (by kernel_rfl)) (fun _ _ _ h => h) (Or.inl ⟨by rfl, ?_⟩) ?_ ?_
        rotate_left
        ·intro w'
         go_simp
         with_reducible rfl
        rotate_left
        ·simp only [Act.put, List.setIfInBounds_toArray, List.set_cons_zero, List.set_cons_succ, zm, zn]
         rfl
        refine jJ (i := 14) (N := some 46) #[true, true, true, true, true, true, true, true, true, true, true, true, true, true, true, false, false] rfl rfl (qM HT_.out (by kernel_rfl)) (by decide) (fun K hK => ?_)
        refine Vo (w1 := ?_) (v := ?_) (by rfl) rfl ?_ ?_
        rotate_left 2
        ·go_simp
         constructor
         ·rfl
         ·rfl
        refine hK.out _ _ ⟨(zh (zf BK207.out _) 0).trans rfl, (zh (zf BK207.out _) 1).trans rfl, (World.cell?_alloc_lt _ _ _ (World.block_lt_of_cell? _ _ (((HB.out.cell (World.block_lt_of_cell? w _ hw215_0)).trans hw215_0)))).trans (((HB.out.cell (World.block_lt_of_cell? w _ hw215_0)).trans hw215_0)), (World.cell?_alloc_lt _ _ _ (World.block_lt_of_cell? _ _ (((HB.out.cell (World.block_lt_of_cell? w _ hw216_0)).trans hw216_0)))).trans (((HB.out.cell (World.block_lt_of_cell? w _ hw216_0)).trans hw216_0))⟩ (fun hHeld => ?_)
        clear hK K
        refine jh (a' := ?_) ?_ ?_
        rotate_left
        ·show Act.put _ (some 46) _ = _
         simp only [Act.put, List.setIfInBounds_toArray, List.set_cons_zero, List.set_cons_succ, zm, zn]
         rfl
        refine jJ (i := 15) (N := some 47) #[true, true, true, true, true, true, true, true, true, true, true, true, true, true, true, true, false] rfl rfl (qM HT_.out (by kernel_rfl)) (by decide) (fun K hK => ?_)
        refine Kd.yg (Kd.int .i64) (w0 := w) w.heap.size (by rfl) (.tmp 32) (.tmp 46) 22 3 (.int .i64 0) 8 rfl Try.underlying22 vJ rfl (by decide) (by omega) u6 x6_1 (wrap64 ((rd l0_1 x7_1) - (Go.bits .and .i64 (rd l0_1 x7_1) a1))) [.int .i64 (wrap64 ((rd l0_1 x7_1) - (Go.bits .and .i64 (rd l0_1 x7_1) a1)))] (fun _ => True) (fun _ => False) rfl rfl ?aP (fun _ hk => hk.elim) ?aF ?aO ?aB ?aS ?aL ?_
        (case aP => exact rfl)
        (case aB => exact (by repeat (first | (with_reducible first | exact HB.out | apply zc | apply za | apply zb | refine zd ?_ GE207.out | refine zd ?_ GE208.out) | exact HB.out)))
        (case aF => exact (fun _ _ => trivial))
        (case aO => exact (by (with_reducible repeat (first | apply Kd.zw | apply Kd.zx | apply Kd.zz)); exact HO_6.out))
        (case aS => exact (zk (by repeat (first | (with_reducible first | exact HB.out | apply zc | apply za | apply zb | refine zd ?_ GE207.out | refine zd ?_ GE208.out) | exact HB.out))))
        (case aL => have := LMc22.out; omega)
        intro v218 w26 ho hb hg hat
        rw [← Ny217.out] at ho
        have n0_ := Aside0.mk (vA (g := gb207) (o := .cells #[.int .i64 a0_0, .slice (some ad213) l0_1.length c0_1] 26 (0, 0)) (by (with_reducible repeat (first | refine ze ?_ _ | refine zg ?_ | refine zf ?_ _)); exact BK207.out) hg (Kd.JM HO_6.out BK207.out (by decide)))
        have n1_ := Aside0.mk (vA (g := gb208) (o := .cells #[.int .i64 0, .slice none 0 0] 26 (0, 0)) (by (with_reducible repeat (first | refine ze ?_ _ | refine zg ?_ | refine zf ?_ _)); exact BK208.out) hg (Kd.JM HO_6.out BK208.out (by decide)))
        have n2_ := Aside0.mk (hb)
        have n3_ := Aside0.mk (ho)
        clear BK207
        clear BK208
        clear HB
        clear HO_6
        have BK207 := n0_
        have BK208 := n1_
        have HB := n2_
        have HO219 := n3_
        clear n0_ n1_ n2_ n3_
        clear ho hb hg hat
        refine hK.out _ _ ⟨(zh BK207.out 0).trans rfl, (zh BK207.out 1).trans rfl, ((HB.out.cell (World.block_lt_of_cell? w _ hw215_0)).trans hw215_0), ((HB.out.cell (World.block_lt_of_cell? w _ hw216_0)).trans hw216_0)⟩ (fun hHeld => ?_)
        clear hK K
        refine jh (a' := ?_) ?_ ?_
        rotate_left
        ·show Act.put _ (some 47) _ = _
         simp only [Act.put, List.setIfInBounds_toArray, List.set_cons_zero, List.set_cons_succ, zm, zn]
         rfl
        refine zE (i := 16) (N := some 6) (v := ?_) (a' := ?_) #[true, true, true, true, true, true, true, true, true, true, true, true, true, true, true, true, true] rfl rfl (zr HT_.out (by kernel_rfl)) (fun _ _ _ h => h) (Or.inl ⟨by rfl, ?_⟩) ?_ ?_
        rotate_left
        ·intro w'
         go_simp
         with_reducible rfl
        rotate_left
        ·simp only [Act.put, List.setIfInBounds_toArray, List.set_cons_zero, List.set_cons_succ, zm, zn]
         rfl
        refine j4 (jm HT_.out (by kernel_rfl)) ?_
        try go_wp2
        go_roundg k1
        case measure => have := HK1.out; omega
        case rel => exact ⟨(y217), (wrap64 (x7_1 + 1)), (by first | rfl | (simp; done) | (simp [*]; done)), H', ⟨by have := HK1.out; omega⟩, ⟨by (with_reducible repeat (first | apply Kd.zw | apply Kd.zx | apply Kd.zz)); exact HO219.out⟩, ⟨by (with_reducible repeat (first | refine ze ?_ _ | refine zg ?_ | refine zf ?_ _)); exact BK207.out⟩, ⟨by (with_reducible repeat (first | refine ze ?_ _ | refine zg ?_ | refine zf ?_ _)); exact BK208.out⟩, ⟨by repeat (first | (with_reducible first | exact HB.out | apply zc | apply za | apply zb | refine zd ?_ GE207.out | refine zd ?_ GE208.out) | exact HB.out)⟩⟩
       ·rw [if_neg c22] at H
        exact absurd H (by simp)
      ·rw [if_neg c21] at H
       have c21b0 : (t214 == t209) = false := beq_eq_false_iff_ne.mpr c21
       have c21b1 : (t214 != t209) = true := bne_iff_ne.mpr c21
       have H' := Aside0.mk H
       clear H
       have hnb27 := NB207_208.out
       have hnc27 := NB208_207.out
       have hcz28_0 : wr.cell? ⟨gb207, 0, none⟩ = some (.int .i64 a0_0) := (zh BK207.out 0).trans rfl
       have hcz28_1 : wr.cell? ⟨gb207, 1, none⟩ = some (.slice A0_1 l0_1.length c0_1) := (zh BK207.out 1).trans rfl
       have hfz28_0 := zi BK207.out 0
       have hfz28_1 := zi BK207.out 1
       have p213 : 0 ≤ (x7_1 : Int) := of_decide_eq_true (by first | (with_reducible assumption) | assumption)
       have q213 : x7_1 < (l0_1.length : Int) := of_decide_eq_true (by first | (with_reducible assumption) | assumption)
       obtain ⟨ad213, e213, hx213_0⟩ := Kd.qd HR0_1.out x7_1 p213 q213
       cases e213
       replace hx213_0 := (HB.out.cell (World.block_lt_of_cell? w _ hx213_0)).trans hx213_0
       replace p213 := eq_true p213
       replace q213 := eq_true q213
       go_wp2_with (first | ((with_reducible refine zo (f := 34) rfl ?_); refine zL (some 29) rfl rfl Try.func34 (by kernel_rfl) rfl #[.int .i64 (Go.bits .and .i64 (rd l0_1 x7_1) a1)] rfl (by (try simp only [List.map_toArray, List.map_cons, List.map_nil]); first | done | rfl | (simp only [List.length_drop, List.length_take]; rfl)) ?_; (with_reducible refine (z6.calls k1 (Go.bits .and .i64 (rd l0_1 x7_1) a1) t214 _ A20.out).mono ?_); rintro e w' ⟨rfl, ⟨nd, rfl⟩⟩; refine ⟨_, rfl, ?_⟩))
       go_roundg k1
       case measure => have := HK1.out; omega
       case rel => exact ⟨(x6_1), (wrap64 (x7_1 + 1)), (by first | rfl | (simp; done) | (simp [*]; done)), H', ⟨by have := HK1.out; omega⟩, ⟨by (with_reducible repeat (first | apply Kd.zw | apply Kd.zx | apply Kd.zz)); exact HO_6.out⟩, ⟨by (with_reducible repeat (first | refine ze ?_ _ | refine zg ?_ | refine zf ?_ _)); exact BK207.out⟩, ⟨by (with_reducible repeat (first | refine ze ?_ _ | refine zg ?_ | refine zf ?_ _)); exact BK208.out⟩, ⟨by repeat (first | (with_reducible first | exact HB.out | apply zc | apply za | apply zb | refine zd ?_ GE207.out | refine zd ?_ GE208.out) | exact HB.out)⟩⟩
     ·rw [if_neg c19] at H
      exact absurd H (by simp)
    ·rw [if_neg c18] at H
     have c18b0 : decide (x7_1 < (l0_1.length : Int)) = false := decide_eq_false c18
     clear c18
     replace H := Option.bind_eq_some_iff.mp H
     obtain ⟨t220, A290, H⟩ := H
     replace H : ((qj.f k1 (wrap64 (t220 - a1)) x6_1).bind fun bt221 => (some (bt221.1, bt221.2))) = some (r1, r2) := H
     have A29 := Aside0.mk A290
     clear A290
     replace H := Option.bind_eq_some_iff.mp H
     obtain ⟨⟨t221, t222⟩, A300, H⟩ := H
     replace H : (some (t221, t222)) = some (r1, r2) := H
     have A30 := Aside0.mk A300
     clear A300
     simp only [Option.some.injEq, Prod.mk.injEq] at H
     obtain ⟨rfl, rfl⟩ := H
     have hnb31 := NB207_208.out
     have hnc31 := NB208_207.out
     have hcz32_0 : wr.cell? ⟨gb207, 0, none⟩ = some (.int .i64 a0_0) := (zh BK207.out 0).trans rfl
     have hcz32_1 : wr.cell? ⟨gb207, 1, none⟩ = some (.slice A0_1 l0_1.length c0_1) := (zh BK207.out 1).trans rfl
     have hfz32_0 := zi BK207.out 0
     have hfz32_1 := zi BK207.out 1
     go_wp2_with (first | ((with_reducible refine zo (f := 36) rfl ?_); refine zL (some 50) rfl rfl Try.func36 (by kernel_rfl) rfl #[.int .i64 a0_0] rfl (by (try simp only [List.map_toArray, List.map_cons, List.map_nil]); first | done | rfl | (simp only [List.length_drop, List.length_take]; rfl)) ?_; (with_reducible refine (zZ.calls a0_0 t220 _ A29.out).mono ?_); rintro e w' ⟨rfl, ⟨nd, rfl⟩⟩; refine ⟨_, rfl, ?_⟩; (try (rw [jN wr]; generalize hq_ : World.drewN wr _ = wr; have n0_ : Aside0 (Kd.R (Kd.int .i64) 3 wr w.heap.size (fun _ => True) u6 x6_1) := ⟨by rw [← hq_]; exact (by (with_reducible repeat (first | apply Kd.zw | apply Kd.zx | apply Kd.zz)); exact HO_6.out)⟩; have n1_ : Aside0 (wr.heap[gb207]? = some (.cells #[.int .i64 a0_0, .slice A0_1 l0_1.length c0_1] 26 (0, 0))) := ⟨by rw [← hq_]; exact (by (with_reducible repeat (first | refine ze ?_ _ | refine zg ?_ | refine zf ?_ _)); exact BK207.out)⟩; have n2_ : Aside0 (wr.heap[gb208]? = some (.cells #[.int .i64 0, .slice none 0 0] 26 (0, 0))) := ⟨by rw [← hq_]; exact (by (with_reducible repeat (first | refine ze ?_ _ | refine zg ?_ | refine zf ?_ _)); exact BK208.out)⟩; have n3_ : Aside0 (Below w.heap.size w wr) := ⟨by rw [← hq_]; exact (by repeat (first | (with_reducible first | exact HB.out | apply zc | apply za | apply zb | refine zd ?_ GE207.out | refine zd ?_ GE208.out) | exact HB.out))⟩; clear HO_6 BK207 BK208 HB hq_; have HO_6 := n0_; have BK207 := n1_; have BK208 := n2_; have HB := n3_; clear n0_ n1_ n2_ n3_; have hczqgb207_0 : wr.cell? ⟨gb207, 0, none⟩ = some (.int .i64 a0_0) := (zh BK207.out 0).trans rfl; have hfzqgb207_0 := zi BK207.out 0; have hczqgb207_1 : wr.cell? ⟨gb207, 1, none⟩ = some (.slice A0_1 l0_1.length c0_1) := (zh BK207.out 1).trans rfl; have hfzqgb207_1 := zi BK207.out 1; have hczqgb208_0 : wr.cell? ⟨gb208, 0, none⟩ = some (.int .i64 0) := (zh BK208.out 0).trans rfl; have hfzqgb208_0 := zi BK208.out 0; have hczqgb208_1 : wr.cell? ⟨gb208, 1, none⟩ = some (.slice none 0 0) := (zh BK208.out 1).trans rfl; have hfzqgb208_1 := zi BK208.out 1)); obtain ⟨Ao33, co33, eo33⟩ := Kd.qo HO_6.out; subst eo33) | ((with_reducible refine zo (f := 35) rfl ?_); refine zL (some 54) rfl rfl Try.func35 (by kernel_rfl) rfl #[.int .i64 (wrap64 (t220 - a1)), .slice Ao33 x6_1.length co33] rfl (by (try simp only [List.map_toArray, List.map_cons, List.map_nil]); first | done | rfl | (simp only [List.length_drop, List.length_take]; rfl)) ?_; (with_reducible refine (qj.calls k1 (wrap64 (t220 - a1)) _ _ x6_1 t221 t222 _ ?side1 ?side2 A30.out).mono ?_); (case side1 => repeat (first | exact (Kd.zS HO_6.out).2.2 | (with_reducible refine Kd.zI ?_ _) | (with_reducible refine Kd.zH ?_ _) | (with_reducible refine Kd.zP ?_))); (case side2 => exact (Kd.zS HO_6.out).2.1); rintro e w34 ⟨v223, rfl, ho0, hb⟩; refine ⟨_, rfl, ?_⟩; have n0_ := Aside0.mk (Kd.jo (by (with_reducible repeat (first | apply Kd.zw | apply Kd.zx | apply Kd.zz)); exact HO_6.out) (Kd.jY ho0) hb); have n1_ := Aside0.mk (Kd.qB (Kd.jX ho0 (Kd.vL (by (with_reducible repeat (first | apply Kd.zw | apply Kd.zx | apply Kd.zz)); exact HO_6.out))) (zk (by repeat (first | (with_reducible first | exact HB.out | apply zc | apply za | apply zb | refine zd ?_ GE207.out | refine zd ?_ GE208.out) | exact HB.out)))); have n2_ := Aside0.mk (zj (g := gb207) (o := .cells #[.int .i64 a0_0, .slice A0_1 l0_1.length c0_1] 26 (0, 0)) (by (with_reducible repeat (first | refine ze ?_ _ | refine zg ?_ | refine zf ?_ _)); exact BK207.out) hb); have n3_ := Aside0.mk (zj (g := gb208) (o := .cells #[.int .i64 0, .slice none 0 0] 26 (0, 0)) (by (with_reducible repeat (first | refine ze ?_ _ | refine zg ?_ | refine zf ?_ _)); exact BK208.out) hb); have n4_ := Aside0.mk (zl (by repeat (first | (with_reducible first | exact HB.out | apply zc | apply za | apply zb | refine zd ?_ GE207.out | refine zd ?_ GE208.out) | exact HB.out)) hb); clear HO_6; clear BK207; clear BK208; clear HB; have HO_6 := n0_; have HO224 := n1_; have BK207 := n2_; have BK208 := n3_; have HB := n4_; clear n0_ n1_ n2_ n3_ n4_; (try clear hb); (try clear hb2); (try clear hk); (try clear hi); (try clear ho0); have hcz35_0 : w34.cell? ⟨gb208, 0, none⟩ = some (.int .i64 0) := (zh BK208.out 0).trans rfl; have hcz35_1 : w34.cell? ⟨gb208, 1, none⟩ = some (.slice none 0 0) := (zh BK208.out 1).trans rfl; have hfz35_0 := zi BK208.out 0; have hfz35_1 := zi BK208.out 1; obtain ⟨Ao36, co36, eo36⟩ := Kd.qo HO224.out; subst eo36))
     refine bodyPost_ret (results_cell_row rfl _ _ gb208 26 #[.int .i64 t221, .slice Ao36 t222.length co36] (0, 0) _ rfl (by (with_reducible repeat (first | refine ze ?_ _ | refine zg ?_ | refine zf ?_ _)); refine zV (cs := #[.int .i64 t221, .slice none 0 0]) ?_ 1 _ rfl; (with_reducible repeat (first | refine ze ?_ _ | refine zg ?_ | refine zf ?_ _)); refine zV (cs := #[.int .i64 0, .slice none 0 0]) ?_ 0 _ rfl; (with_reducible repeat (first | refine ze ?_ _ | refine zg ?_ | refine zf ?_ _)); exact BK208.out) Try.underlying26 rfl (by kernel_rfl)) rfl ?_
     exact ⟨_, by first | rfl | (simp [zt, zu] <;> rfl) | (simp [*, zt, zu] <;> rfl), by (with_reducible repeat (first | apply Kd.zw | apply Kd.zx | apply Kd.zz)); exact Kd.qn (Kd.qx (p := ⟨gb208, 1, none⟩) (Kd.qx (p := ⟨gb208, 0, none⟩) (Kd.qG HO224.out BK208.out (by decide)) (fun _ hk => hk.2) (.int .i64 t221)) (fun _ hk => hk.2) (.slice Ao36 t222.length co36)) (fun _ hk => trivial), by repeat (first | (with_reducible first | exact HB.out | apply zc | apply za | apply zb | refine zd ?_ GE207.out | refine zd ?_ GE208.out) | exact HB.out)⟩

end Go.Proofs.Ytkmcefhchhahhaa.F
end
section
namespace Go.Proofs.Ytkmcefhchhahhaa.F
open Go.RowKit Go.Proofs.YtkmcefhchhahhaaW.PrintWords Go.Proofs.YtkmcefhchhahhaaW.PrintLast Go.Proofs.YtkmcefhchhahhaaW.PrintMore
attribute [local go_sem] jd q8 ji jj qP qN jc q4   -- for this text's walks alone
set_option linter.unusedVariables false
set_option linter.unusedSimpArgs false

def zU.j0 : Nat → Int → Int → Bool → Int → List Int → Option (Int × List Int × Bool)
 | 0, _, _, _, _, _ => none
 | k + 1, x1, x2, x23, x491000, x491001 => if x23 = true then (some (0, ([] : List Int), false)) else ((qT.f k x491000 x491001 x1).bind fun bt494 => ((zZ.f x491000).bind fun t498 => ((qc.f k x2 (wrap64 (t498 - x1))).bind fun t499 => ((zN.f k bt494.1 bt494.2 t499).bind fun bt500 => (some (bt500.1, bt500.2, true))))))
def zU.f (k : Nat) (a0_0 : Int) (l0_1 : List Int) (a1 : Int) (a2 : Int) : Option (Int × List Int × Bool) := (qe.f k a0_0 l0_1 a1).bind fun t492 => (if t492 < 0 then (zU.j0 k a1 a2 true a0_0 l0_1) else ((qe.f k a0_0 l0_1 a2).bind fun t493 => (if t493 < 0 then (zU.j0 k a1 a2 true a0_0 l0_1) else (zU.j0 k a1 a2 ((Go.bits .and .i64 a1 a2) != 0) a0_0 l0_1))))
def zU.T3 : Bool × List (List Nat × List Nat) := (true, [([], []), ([], []), ([0, 1], [0, 1]), ([], []), ([], []), ([4], [4]), ([5, 2], [5]), ([], []), ([6, 7], [6, 7]), ([3, 8, 6], [3, 8]), ([2, 9, 9], [2, 9]), ([10, 10, 0, 1, 2, 3, 4, 5, 6, 7, 8, 9, 10], [10]), ([11, 0, 1, 2, 3, 4, 5, 6, 7, 8, 9, 10, 11], [])])
def zU.B3 : List Nat := [0, 0, 3, 0, 0, 16, 55, 0, 247, 511, 1023, 2047, 4095]
theorem zU.Jb : j9 .any (opsOf Try.f22 3) = zU.T3 := by kernel_rfl
theorem zU.ZA : jM zU.T3.2 zU.B3 = true := by kernel_rfl
theorem zU.calls (k : Nat) (a0_0 : Int) (A0_1 : Option Addr) (c0_1 : Nat) (l0_1 : List Int) (a1 : Int) (a2 : Int) (r1 : Int) (r2 : List Int) (r3 : Bool) (w : World) (hr0_1 : Kd.C (Kd.int .i64) w A0_1 l0_1.length l0_1) (hc0_1 : l0_1.length ≤ c0_1) (h : zU.f k a0_0 l0_1 a1 a2 = some (r1, r2, r3)) :
  Calls Try.prog 22 #[.agg #[.int .i64 a0_0, .slice A0_1 l0_1.length c0_1], .int .i64 a1, .int .i64 a2] w fun e w' => ∃ v1_ : Value, e = .returned (.tuple #[.agg #[.int .i64 r1, v1_], .bool r3]) ∧ Kd.R (Kd.int .i64) 3 w' w.heap.size (fun _ => True) v1_ r2 ∧ Below w.heap.size w w' := by
 have hu26 := Try.underlying26
 have HR0_1 := Aside0.mk hr0_1
 have HC0_1 := Aside0.mk hc0_1
 clear hr0_1 hc0_1
 have HB := Aside0.mk (Below.refl w.heap.size w)
 have H : ((qe.f k a0_0 l0_1 a1).bind fun t492 => (if t492 < 0 then (zU.j0 k a1 a2 true a0_0 l0_1) else ((qe.f k a0_0 l0_1 a2).bind fun t493 => (if t493 < 0 then (zU.j0 k a1 a2 true a0_0 l0_1) else (zU.j0 k a1 a2 ((Go.bits .and .i64 a1 a2) != 0) a0_0 l0_1))))) = some (r1, r2, r3) := h
 clear h
 have HC4 := Aside0.mk H
 clear H
 go_enter Try.func22, Try.ntmps22
 go_upto_region 1 with (first | ((with_reducible refine zD (N := 3) rfl ?_); refine zA ?hg (N := 3) ?hd (cs := #[.int .i64 a0_0, .slice A0_1 l0_1.length c0_1]) (t := 26) ?hr ?_; (case hd => rfl); (case hg => rfl); (case hr => first | (go_simp; done) | (go_simp; rfl)); intro gb490 hg w5 hbox hb; have n0_ := Aside0.mk (zl (by repeat (first | (with_reducible first | exact HB.out | apply zc | apply za | apply zb) | exact HB.out)) hb); have n1_ := Aside0.mk (hbox); have n2_ := Aside0.mk ((by rw [hg]; exact (zk (by repeat (first | (with_reducible first | exact HB.out | apply zc | apply za | apply zb) | exact HB.out))) : w.heap.size ≤ gb490)); have n3_ := Aside0.mk ((by rw [hg]; exact (zk (by repeat (first | (with_reducible first | exact HB.out | apply zc | apply za | apply zb) | exact HB.out))) : w.heap.size ≤ gb490)); clear HB; have HB := n0_; have BK490 := n1_; have GW490 := n2_; have GE490 := n3_; clear n0_ n1_ n2_ n3_; clear hb hbox hg) | ((with_reducible refine zD (N := 6) rfl ?_); refine zA ?hg (N := 6) ?hd (cs := #[.int .i64 0, .slice none 0 0]) (t := 26) ?hr ?_; (case hd => rfl); (case hg => rfl); (case hr => first | (go_simp; done) | (go_simp; rfl)); intro gb491 hg w6 hbox hb; have n0_ := Aside0.mk (zj (g := gb490) (o := .cells #[.int .i64 a0_0, .slice A0_1 l0_1.length c0_1] 26 (0, 0)) (by (with_reducible repeat (first | refine ze ?_ _ | refine zg ?_ | refine zf ?_ _)); exact BK490.out) hb); have n1_ := Aside0.mk (zl (by repeat (first | (with_reducible first | exact HB.out | apply zc | apply za | apply zb | refine zd ?_ GE490.out) | exact HB.out)) hb); have n2_ := Aside0.mk (hbox); have n3_ := Aside0.mk ((by rw [hg]; exact (zk (by repeat (first | (with_reducible first | exact HB.out | apply zc | apply za | apply zb | refine zd ?_ GE490.out) | exact HB.out))) : w.heap.size ≤ gb491)); have n4_ := Aside0.mk ((by rw [hg]; exact (zk (by repeat (first | (with_reducible first | exact HB.out | apply zc | apply za | apply zb | refine zd ?_ GE490.out) | exact HB.out))) : w.heap.size ≤ gb491)); have n5_ := Aside0.mk ((by rw [hg]; exact Nat.ne_of_lt (zM (g := gb490) (o := .cells #[.int .i64 a0_0, .slice A0_1 l0_1.length c0_1] 26 (0, 0)) (by (with_reducible repeat (first | refine ze ?_ _ | refine zg ?_ | refine zf ?_ _)); exact BK490.out)) : gb490 ≠ gb491)); have n6_ := Aside0.mk ((by rw [hg]; exact Nat.ne_of_gt (zM (g := gb490) (o := .cells #[.int .i64 a0_0, .slice A0_1 l0_1.length c0_1] 26 (0, 0)) (by (with_reducible repeat (first | refine ze ?_ _ | refine zg ?_ | refine zf ?_ _)); exact BK490.out)) : gb491 ≠ gb490)); clear BK490; clear HB; have BK490 := n0_; have HB := n1_; have BK491 := n2_; have GW491 := n3_; have GE491 := n4_; have NB490_491 := n5_; have NB491_490 := n6_; clear n0_ n1_ n2_ n3_ n4_ n5_ n6_; clear hb hbox hg))
 (try simp only [Act.put, List.setIfInBounds_toArray, List.set_cons_zero, List.set_cons_succ])
 go_cut [23] (fun v23 wc => ∃ (kq : Nat) (x23_3 : Bool), v23 = .bool x23_3 ∧ Aside0 (zU.j0 kq a1 a2 x23_3 a0_0 l0_1 = some (r1, r2, r3)) ∧ Aside0 (kq ≤ k) ∧ Aside0 (wc.heap[gb490]? = some (.cells #[.int .i64 a0_0, (.slice A0_1 l0_1.length c0_1)] 26 (0, 0))) ∧ Aside0 (wc.heap[gb491]? = some (.cells #[.int .i64 0, (.slice none 0 0)] 26 (0, 0))) ∧ Aside0 (Below w.heap.size w wc))
 case first =>
  have H := HC4.out
  clear HC4
  replace H := Option.bind_eq_some_iff.mp H
  obtain ⟨t492, A70, H⟩ := H
  replace H : (if t492 < 0 then (zU.j0 k a1 a2 true a0_0 l0_1) else ((qe.f k a0_0 l0_1 a2).bind fun t493 => (if t493 < 0 then (zU.j0 k a1 a2 true a0_0 l0_1) else (zU.j0 k a1 a2 ((Go.bits .and .i64 a1 a2) != 0) a0_0 l0_1)))) = some (r1, r2, r3) := H
  have A7 := Aside0.mk A70
  clear A70
  by_cases c8 : t492 < 0
  ·rw [if_pos c8] at H
   have c8b0 : decide (t492 < 0) = true := decide_eq_true c8
   clear c8
   (first | rw [c8b0] | (simp only [zm, zn]; rw [c8b0]) | skip)
   have H' := Aside0.mk H
   clear H
   have hnb9 := NB490_491.out
   have hnc9 := NB491_490.out
   have hcz10_0 : w6.cell? ⟨gb490, 0, none⟩ = some (.int .i64 a0_0) := (zh BK490.out 0).trans rfl
   have hcz10_1 : w6.cell? ⟨gb490, 1, none⟩ = some (.slice A0_1 l0_1.length c0_1) := (zh BK490.out 1).trans rfl
   have hfz10_0 := zi BK490.out 0
   have hfz10_1 := zi BK490.out 1
   go_wp2_with (first | ((with_reducible refine zo (f := 33) rfl ?_); refine zL (some 10) rfl rfl Try.func33 (by kernel_rfl) rfl #[.agg #[.int .i64 a0_0, .slice A0_1 l0_1.length c0_1], .int .i64 a1] rfl (by (try simp only [List.map_toArray, List.map_cons, List.map_nil]); first | done | rfl | (simp only [List.length_drop, List.length_take]; rfl)) ?_; (with_reducible refine (qe.calls k a0_0 _ _ l0_1 a1 t492 _ ?side1 ?side2 A7.out).mono ?_); (case side1 => repeat (first | exact (Kd.zG HR0_1.out HB.out) | (with_reducible refine Kd.zI ?_ _) | (with_reducible refine Kd.zH ?_ _) | (with_reducible refine Kd.zP ?_))); (case side2 => exact HC0_1.out); rintro e w11 ⟨rfl, hb⟩; refine ⟨_, rfl, ?_⟩; have n0_ := Aside0.mk (zj (g := gb490) (o := .cells #[.int .i64 a0_0, .slice A0_1 l0_1.length c0_1] 26 (0, 0)) (by (with_reducible repeat (first | refine ze ?_ _ | refine zg ?_ | refine zf ?_ _)); exact BK490.out) hb); have n1_ := Aside0.mk (zj (g := gb491) (o := .cells #[.int .i64 0, .slice none 0 0] 26 (0, 0)) (by (with_reducible repeat (first | refine ze ?_ _ | refine zg ?_ | refine zf ?_ _)); exact BK491.out) hb); have n2_ := Aside0.mk (zl (by repeat (first | (with_reducible first | exact HB.out | apply zc | apply za | apply zb | refine zd ?_ GE490.out | refine zd ?_ GE491.out) | exact HB.out)) hb); clear BK490; clear BK491; clear HB; have BK490 := n0_; have BK491 := n1_; have HB := n2_; clear n0_ n1_ n2_; (try clear hb); (try clear hb2); (try clear hk); (try clear hi)))
   go_meet
   case rel => exact ⟨_, (true), (by first | rfl | (simp; done) | (simp [*]; done)), H', ⟨by first | omega | exact Nat.le_refl _⟩, ⟨by (with_reducible repeat (first | refine ze ?_ _ | refine zg ?_ | refine zf ?_ _)); exact BK490.out⟩, ⟨by (with_reducible repeat (first | refine ze ?_ _ | refine zg ?_ | refine zf ?_ _)); exact BK491.out⟩, ⟨by repeat (first | (with_reducible first | exact HB.out | apply zc | apply za | apply zb | refine zd ?_ GE490.out | refine zd ?_ GE491.out) | exact HB.out)⟩⟩
  ·rw [if_neg c8] at H
   have c8b0 : decide (t492 < 0) = false := decide_eq_false c8
   clear c8
   (first | rw [c8b0] | (simp only [zm, zn]; rw [c8b0]) | skip)
   replace H := Option.bind_eq_some_iff.mp H
   obtain ⟨t493, A120, H⟩ := H
   replace H : (if t493 < 0 then (zU.j0 k a1 a2 true a0_0 l0_1) else (zU.j0 k a1 a2 ((Go.bits .and .i64 a1 a2) != 0) a0_0 l0_1)) = some (r1, r2, r3) := H
   have A12 := Aside0.mk A120
   clear A120
   by_cases c13 : t493 < 0
   ·rw [if_pos c13] at H
    have c13b0 : decide (t493 < 0) = true := decide_eq_true c13
    clear c13
    have H' := Aside0.mk H
    clear H
    have hnb14 := NB490_491.out
    have hnc14 := NB491_490.out
    have hcz15_0 : w6.cell? ⟨gb490, 0, none⟩ = some (.int .i64 a0_0) := (zh BK490.out 0).trans rfl
    have hcz15_1 : w6.cell? ⟨gb490, 1, none⟩ = some (.slice A0_1 l0_1.length c0_1) := (zh BK490.out 1).trans rfl
    have hfz15_0 := zi BK490.out 0
    have hfz15_1 := zi BK490.out 1
    go_wp2_with (first | ((with_reducible refine zo (f := 33) rfl ?_); refine zL (some 10) rfl rfl Try.func33 (by kernel_rfl) rfl #[.agg #[.int .i64 a0_0, .slice A0_1 l0_1.length c0_1], .int .i64 a1] rfl (by (try simp only [List.map_toArray, List.map_cons, List.map_nil]); first | done | rfl | (simp only [List.length_drop, List.length_take]; rfl)) ?_; (with_reducible refine (qe.calls k a0_0 _ _ l0_1 a1 t492 _ ?side1 ?side2 A7.out).mono ?_); (case side1 => repeat (first | exact (Kd.zG HR0_1.out HB.out) | (with_reducible refine Kd.zI ?_ _) | (with_reducible refine Kd.zH ?_ _) | (with_reducible refine Kd.zP ?_))); (case side2 => exact HC0_1.out); rintro e w16 ⟨rfl, hb⟩; refine ⟨_, rfl, ?_⟩; have n0_ := Aside0.mk (zj (g := gb490) (o := .cells #[.int .i64 a0_0, .slice A0_1 l0_1.length c0_1] 26 (0, 0)) (by (with_reducible repeat (first | refine ze ?_ _ | refine zg ?_ | refine zf ?_ _)); exact BK490.out) hb); have n1_ := Aside0.mk (zj (g := gb491) (o := .cells #[.int .i64 0, .slice none 0 0] 26 (0, 0)) (by (with_reducible repeat (first | refine ze ?_ _ | refine zg ?_ | refine zf ?_ _)); exact BK491.out) hb); have n2_ := Aside0.mk (zl (by repeat (first | (with_reducible first | exact HB.out | apply zc | apply za | apply zb | refine zd ?_ GE490.out | refine zd ?_ GE491.out) | exact HB.out)) hb); clear BK490; clear BK491; clear HB; have BK490 := n0_; have BK491 := n1_; have HB := n2_; clear n0_ n1_ n2_; (try clear hb); (try clear hb2); (try clear hk); (try clear hi); have hcz17_0 : w16.cell? ⟨gb490, 0, none⟩ = some (.int .i64 a0_0) := (zh BK490.out 0).trans rfl; have hcz17_1 : w16.cell? ⟨gb490, 1, none⟩ = some (.slice A0_1 l0_1.length c0_1) := (zh BK490.out 1).trans rfl; have hfz17_0 := zi BK490.out 0; have hfz17_1 := zi BK490.out 1) | (go_at_call 33; (try simp only [zm, zn]); (with_reducible refine (qe.calls k a0_0 _ _ l0_1 a2 t493 _ ?side1 ?side2 A12.out).mono ?_); (case side1 => repeat (first | exact (Kd.zG HR0_1.out HB.out) | (with_reducible refine Kd.zI ?_ _) | (with_reducible refine Kd.zH ?_ _) | (with_reducible refine Kd.zP ?_))); (case side2 => exact HC0_1.out); rintro e w18 ⟨rfl, hb⟩; have n0_ := Aside0.mk (zj (g := gb490) (o := .cells #[.int .i64 a0_0, .slice A0_1 l0_1.length c0_1] 26 (0, 0)) (by (with_reducible repeat (first | refine ze ?_ _ | refine zg ?_ | refine zf ?_ _)); exact BK490.out) hb); have n1_ := Aside0.mk (zj (g := gb491) (o := .cells #[.int .i64 0, .slice none 0 0] 26 (0, 0)) (by (with_reducible repeat (first | refine ze ?_ _ | refine zg ?_ | refine zf ?_ _)); exact BK491.out) hb); have n2_ := Aside0.mk (zl (by repeat (first | (with_reducible first | exact HB.out | apply zc | apply za | apply zb | refine zd ?_ GE490.out | refine zd ?_ GE491.out) | exact HB.out)) hb); clear BK490; clear BK491; clear HB; have BK490 := n0_; have BK491 := n1_; have HB := n2_; clear n0_ n1_ n2_; (try clear hb); (try clear hb2); (try clear hk); (try clear hi)))
    go_meet
    case rel => exact ⟨_, (true), (by first | rfl | (simp; done) | (simp [*]; done)), H', ⟨by first | omega | exact Nat.le_refl _⟩, ⟨by (with_reducible repeat (first | refine ze ?_ _ | refine zg ?_ | refine zf ?_ _)); exact BK490.out⟩, ⟨by (with_reducible repeat (first | refine ze ?_ _ | refine zg ?_ | refine zf ?_ _)); exact BK491.out⟩, ⟨by repeat (first | (with_reducible first | exact HB.out | apply zc | apply za | apply zb | refine zd ?_ GE490.out | refine zd ?_ GE491.out) | exact HB.out)⟩⟩
   ·rw [if_neg c13] at H
    have c13b0 : decide (t493 < 0) = false := decide_eq_false c13
    clear c13
    have H' := Aside0.mk H
    clear H
    have hnb19 := NB490_491.out
    have hnc19 := NB491_490.out
    have hcz20_0 : w6.cell? ⟨gb490, 0, none⟩ = some (.int .i64 a0_0) := (zh BK490.out 0).trans rfl
    have hcz20_1 : w6.cell? ⟨gb490, 1, none⟩ = some (.slice A0_1 l0_1.length c0_1) := (zh BK490.out 1).trans rfl
    have hfz20_0 := zi BK490.out 0
    have hfz20_1 := zi BK490.out 1
    go_wp2_with (first | ((with_reducible refine zo (f := 33) rfl ?_); refine zL (some 10) rfl rfl Try.func33 (by kernel_rfl) rfl #[.agg #[.int .i64 a0_0, .slice A0_1 l0_1.length c0_1], .int .i64 a1] rfl (by (try simp only [List.map_toArray, List.map_cons, List.map_nil]); first | done | rfl | (simp only [List.length_drop, List.length_take]; rfl)) ?_; (with_reducible refine (qe.calls k a0_0 _ _ l0_1 a1 t492 _ ?side1 ?side2 A7.out).mono ?_); (case side1 => repeat (first | exact (Kd.zG HR0_1.out HB.out) | (with_reducible refine Kd.zI ?_ _) | (with_reducible refine Kd.zH ?_ _) | (with_reducible refine Kd.zP ?_))); (case side2 => exact HC0_1.out); rintro e w21 ⟨rfl, hb⟩; refine ⟨_, rfl, ?_⟩; have n0_ := Aside0.mk (zj (g := gb490) (o := .cells #[.int .i64 a0_0, .slice A0_1 l0_1.length c0_1] 26 (0, 0)) (by (with_reducible repeat (first | refine ze ?_ _ | refine zg ?_ | refine zf ?_ _)); exact BK490.out) hb); have n1_ := Aside0.mk (zj (g := gb491) (o := .cells #[.int .i64 0, .slice none 0 0] 26 (0, 0)) (by (with_reducible repeat (first | refine ze ?_ _ | refine zg ?_ | refine zf ?_ _)); exact BK491.out) hb); have n2_ := Aside0.mk (zl (by repeat (first | (with_reducible first | exact HB.out | apply zc | apply za | apply zb | refine zd ?_ GE490.out | refine zd ?_ GE491.out) | exact HB.out)) hb); clear BK490; clear BK491; clear HB; have BK490 := n0_; have BK491 := n1_; have HB := n2_; clear n0_ n1_ n2_; (try clear hb); (try clear hb2); (try clear hk); (try clear hi); have hcz22_0 : w21.cell? ⟨gb490, 0, none⟩ = some (.int .i64 a0_0) := (zh BK490.out 0).trans rfl; have hcz22_1 : w21.cell? ⟨gb490, 1, none⟩ = some (.slice A0_1 l0_1.length c0_1) := (zh BK490.out 1).trans rfl; have hfz22_0 := zi BK490.out 0; have hfz22_1 := zi BK490.out 1) | (go_at_call 33; (try simp only [zm, zn]); (with_reducible refine (qe.calls k a0_0 _ _ l0_1 a2 t493 _ ?side1 ?side2 A12.out).mono ?_); (case side1 => repeat (first | exact (Kd.zG HR0_1.out HB.out) | (with_reducible refine Kd.zI ?_ _) | (with_reducible refine Kd.zH ?_ _) | (with_reducible refine Kd.zP ?_))); (case side2 => exact HC0_1.out); rintro e w23 ⟨rfl, hb⟩; have n0_ := Aside0.mk (zj (g := gb490) (o := .cells #[.int .i64 a0_0, .slice A0_1 l0_1.length c0_1] 26 (0, 0)) (by (with_reducible repeat (first | refine ze ?_ _ | refine zg ?_ | refine zf ?_ _)); exact BK490.out) hb); have n1_ := Aside0.mk (zj (g := gb491) (o := .cells #[.int .i64 0, .slice none 0 0] 26 (0, 0)) (by (with_reducible repeat (first | refine ze ?_ _ | refine zg ?_ | refine zf ?_ _)); exact BK491.out) hb); have n2_ := Aside0.mk (zl (by repeat (first | (with_reducible first | exact HB.out | apply zc | apply za | apply zb | refine zd ?_ GE490.out | refine zd ?_ GE491.out) | exact HB.out)) hb); clear BK490; clear BK491; clear HB; have BK490 := n0_; have BK491 := n1_; have HB := n2_; clear n0_ n1_ n2_; (try clear hb); (try clear hb2); (try clear hk); (try clear hi)))
    go_meet
    case rel => exact ⟨_, (((Go.bits .and .i64 a1 a2) != 0)), (by first | rfl | (simp; done) | (simp [*]; done)), H', ⟨by first | omega | exact Nat.le_refl _⟩, ⟨by (with_reducible repeat (first | refine ze ?_ _ | refine zg ?_ | refine zf ?_ _)); exact BK490.out⟩, ⟨by (with_reducible repeat (first | refine ze ?_ _ | refine zg ?_ | refine zf ?_ _)); exact BK491.out⟩, ⟨by repeat (first | (with_reducible first | exact HB.out | apply zc | apply za | apply zb | refine zd ?_ GE490.out | refine zd ?_ GE491.out) | exact HB.out)⟩⟩
 case rest =>
  clear HC4
  try clear c1
  try clear c2
  try clear p2
  try clear c3
  try clear c8
  try clear c8b0
  try clear c9
  try clear c13
  try clear c13b0
  try clear c14
  try clear c19
  try clear c22
  try clear hcz10_0
  try clear hcz10_1
  try clear hcz15_0
  try clear hcz15_1
  try clear hcz17_0
  try clear hcz17_1
  try clear hcz20_0
  try clear hcz20_1
  try clear hcz22_0
  try clear hcz22_1
  try clear hfz10_0
  try clear hfz10_1
  try clear hfz15_0
  try clear hfz15_1
  try clear hfz17_0
  try clear hfz17_1
  try clear hfz20_0
  try clear hfz20_1
  try clear hfz22_0
  try clear hfz22_1
  obtain ⟨kq, x23_3, rfl, HA, HJ3, BK490, BK491, HB⟩ := hcut
  cases kq with
  | zero => exact absurd HA.out (by simp [zU.j0])
  | succ kj3 =>
   have H := HA.out
   clear HA
   simp only [zU.j0] at H
   by_cases c24 : x23_3 = true
   ·subst c24
    have H1 : (some (0, ([] : List Int), false)) = some (r1, r2, r3) := by rw [if_pos rfl] at H; exact H
    clear H
    have H := H1
    clear H1
    simp only [Option.some.injEq, Prod.mk.injEq] at H
    obtain ⟨rfl, rfl, rfl⟩ := H
    have hnb25 := NB491_490.out
    have hnc25 := NB490_491.out
    have hcz26_0 : wc.cell? ⟨gb491, 0, none⟩ = some (.int .i64 0) := (zh BK491.out 0).trans rfl
    have hcz26_1 : wc.cell? ⟨gb491, 1, none⟩ = some (.slice none 0 0) := (zh BK491.out 1).trans rfl
    have hfz26_0 := zi BK491.out 0
    have hfz26_1 := zi BK491.out 1
    go_wp2
    refine bodyPost_ret (jP rfl _ _ gb491 26 #[.int .i64 0, .slice none 0 0] (0, 0) _ rfl (by (with_reducible repeat (first | refine ze ?_ _ | refine zg ?_ | refine zf ?_ _)); refine zV (cs := #[.int .i64 0, .slice none 0 0]) ?_ 1 _ rfl; (with_reducible repeat (first | refine ze ?_ _ | refine zg ?_ | refine zf ?_ _)); refine zV (cs := #[.int .i64 0, .slice none 0 0]) ?_ 0 _ rfl; (with_reducible repeat (first | refine ze ?_ _ | refine zg ?_ | refine zf ?_ _)); exact BK491.out) Try.underlying26 rfl (by kernel_rfl)) rfl ?_
    exact ⟨_, by first | rfl | (simp [zt, zu] <;> rfl) | (simp [*, zt, zu] <;> rfl), by first | exact Kd.yE _ _ _ _ _ | exact Kd.Ze _ _ _ _ _ | exact Kd.ZF _ _ _ _ _ | exact Kd.Zw _ _ _ _ _ | exact Kd.Zt _ _ _ _ _, by repeat (first | (with_reducible first | exact HB.out | apply zc | apply za | apply zb | refine zd ?_ GE490.out | refine zd ?_ GE491.out) | exact HB.out)⟩
   ·replace c24 := Bool.eq_false_iff.mpr c24
    subst c24
    have H1 : ((qT.f kj3 a0_0 l0_1 a1).bind fun bt494 => ((zZ.f a0_0).bind fun t498 => ((qc.f kj3 a2 (wrap64 (t498 - a1))).bind fun t499 => ((zN.f kj3 bt494.1 bt494.2 t499).bind fun bt500 => (some (bt500.1, bt500.2, true)))))) = some (r1, r2, r3) := by rw [if_neg (show ¬ (false = true) by decide)] at H; exact H
    clear H
    have H := H1
    clear H1
    replace H := Option.bind_eq_some_iff.mp H
    obtain ⟨⟨t494, t495⟩, A270, H⟩ := H
    replace H : ((zZ.f a0_0).bind fun t498 => ((qc.f kj3 a2 (wrap64 (t498 - a1))).bind fun t499 => ((zN.f kj3 t494 t495 t499).bind fun bt500 => (some (bt500.1, bt500.2, true))))) = some (r1, r2, r3) := H
    have A27 := Aside0.mk A270
    clear A270
    replace H := Option.bind_eq_some_iff.mp H
    obtain ⟨t498, A280, H⟩ := H
    replace H : ((qc.f kj3 a2 (wrap64 (t498 - a1))).bind fun t499 => ((zN.f kj3 t494 t495 t499).bind fun bt500 => (some (bt500.1, bt500.2, true)))) = some (r1, r2, r3) := H
    have A28 := Aside0.mk A280
    clear A280
    replace H := Option.bind_eq_some_iff.mp H
    obtain ⟨t499, A290, H⟩ := H
    replace H : ((zN.f kj3 t494 t495 t499).bind fun bt500 => (some (bt500.1, bt500.2, true))) = some (r1, r2, r3) := H
    have A29 := Aside0.mk A290
    clear A290
    replace H := Option.bind_eq_some_iff.mp H
    obtain ⟨⟨t500, t501⟩, A300, H⟩ := H
    replace H : (some (t500, t501, true)) = some (r1, r2, r3) := H
    have A30 := Aside0.mk A300
    clear A300
    simp only [Option.some.injEq, Prod.mk.injEq] at H
    obtain ⟨rfl, rfl, rfl⟩ := H
    try go_wp2
    have n0_ := Aside0.mk (zg BK490.out)
    have n1_ := Aside0.mk (zg BK491.out)
    have n2_ := Aside0.mk (zb HB.out)
    clear BK490
    clear BK491
    clear HB
    have BK490 := n0_
    have BK491 := n1_
    have HB := n2_
    clear n0_ n1_ n2_
    refine jA (n := 13) (S := fun w' => w'.cell? ⟨gb490, 0, none⟩ = some (.int .i64 a0_0) ∧ w'.cell? ⟨gb490, 1, none⟩ = some (.slice A0_1 l0_1.length c0_1)) (ds := []) #[false, false, false, false, false, false, false, false, false, false, false, false, false] (by kernel_rfl) rfl rfl ⟨(zh BK490.out 0).trans rfl, (zh BK490.out 1).trans rfl⟩ (fun hHeld => ?_); refine qO zU.Jb zU.ZA (fun HT_ HW_ => ?_)
    generalize wc.drew = w31 at BK490 BK491 HB hHeld ⊢
    refine zE (i := 1) (N := some 26) (v := ?_) (a' := ?_) #[false, true, false, false, false, false, false, false, false, false, false, false, false] rfl rfl (zr HT_.out (by kernel_rfl)) (fun _ _ _ h => h) (Or.inl ⟨by rfl, ?_⟩) ?_ ?_
    rotate_left
    ·intro w'
     go_simp
     with_reducible rfl
    rotate_left
    ·simp only [Act.put, List.setIfInBounds_toArray, List.set_cons_zero, List.set_cons_succ, zm, zn]
     rfl
    refine zE (i := 3) (N := some 28) (v := ?_) (a' := ?_) #[false, true, false, true, false, false, false, false, false, false, false, false, false] rfl rfl (zr HT_.out (by kernel_rfl)) (fun _ _ _ h => h) (Or.inl ⟨by rfl, ?_⟩) ?_ ?_
    rotate_left
    ·intro w'
     go_simp
     with_reducible rfl
    rotate_left
    ·simp only [Act.put, List.setIfInBounds_toArray, List.set_cons_zero, List.set_cons_succ, zm, zn]
     rfl
    refine zE (i := 4) (N := some 29) (v := ?_) (a' := ?_) #[false, true, false, true, true, false, false, false, false, false, false, false, false] rfl rfl (zr HT_.out (by kernel_rfl)) (fun _ _ _ h => h) (Or.inl ⟨by rfl, ?_⟩) ?_ ?_
    rotate_left
    ·intro w'
     go_simp
     with_reducible rfl
    rotate_left
    ·simp only [Act.put, List.setIfInBounds_toArray, List.set_cons_zero, List.set_cons_succ, zm, zn]
     rfl
    refine zE (i := 7) (N := some 32) (v := ?_) (a' := ?_) #[false, true, false, true, true, false, false, true, false, false, false, false, false] rfl rfl (zr HT_.out (by kernel_rfl)) (fun _ _ _ h => h) (Or.inl ⟨by rfl, ?_⟩) ?_ ?_
    rotate_left
    ·intro w'
     go_simp
     with_reducible rfl
    rotate_left
    ·simp only [Act.put, List.setIfInBounds_toArray, List.set_cons_zero, List.set_cons_succ, zm, zn]
     rfl
    refine jf (i := 0) (N := some 25) (v := ?_) (a' := ?_) #[true, true, false, true, true, false, false, true, false, false, false, false, false] rfl rfl (qu HT_.out HW_.out (by kernel_rfl)) (fun _ _ _ h => h) (Or.inl ⟨by rfl, ?_⟩) hHeld ?_ ?_
    rotate_left
    ·rintro w' ⟨s0, s1⟩
     go_simp
     with_reducible rfl
    rotate_left
    ·simp only [Act.put, List.setIfInBounds_toArray, List.set_cons_zero, List.set_cons_succ, zm, zn]
     rfl
    refine jf (i := 5) (N := some 30) (v := ?_) (a' := ?_) #[true, true, false, true, true, true, false, true, false, false, false, false, false] rfl rfl (qu HT_.out HW_.out (by kernel_rfl)) (fun _ _ _ h => h) (Or.inl ⟨by rfl, ?_⟩) hHeld ?_ ?_
    rotate_left
    ·rintro w' ⟨s0, s1⟩
     go_simp
     with_reducible rfl
    rotate_left
    ·simp only [Act.put, List.setIfInBounds_toArray, List.set_cons_zero, List.set_cons_succ, zm, zn]
     rfl
    refine jJ (i := 2) (N := some 27) #[true, true, true, true, true, true, false, true, false, false, false, false, false] rfl rfl (qM HT_.out (by kernel_rfl)) (by decide) (fun K hK => ?_)
    refine jB Try.func18 (by kernel_rfl) rfl #[.agg #[.int .i64 a0_0, .slice A0_1 l0_1.length c0_1], .int .i64 a1] (by rfl) rfl rfl (by (try simp only [List.map_toArray, List.map_cons, List.map_nil]); first | done | rfl | (simp only [List.length_drop, List.length_take]; rfl)) ?_
    with_reducible refine (qT.calls kj3 a0_0 _ _ l0_1 a1 t494 t495 _ ?side1 ?side2 A27.out).mono ?_
    (case side1 => repeat (first | exact (Kd.zG HR0_1.out HB.out) | (with_reducible refine Kd.zI ?_ _) | (with_reducible refine Kd.zH ?_ _) | (with_reducible refine Kd.zP ?_)))
    (case side2 => exact HC0_1.out)
    rintro e w32 ⟨v496, rfl, ho0, hb⟩
    refine ⟨_, rfl, ?_⟩
    have n0_ := Aside0.mk (Kd.qB ho0 (zk (by repeat (first | (with_reducible first | exact HB.out | apply zc | apply za | apply zb | refine zd ?_ GE490.out | refine zd ?_ GE491.out) | exact HB.out))))
    have n1_ := Aside0.mk (zj (g := gb490) (o := .cells #[.int .i64 a0_0, .slice A0_1 l0_1.length c0_1] 26 (0, 0)) (by (with_reducible repeat (first | refine ze ?_ _ | refine zg ?_ | refine zf ?_ _)); exact BK490.out) hb)
    have n2_ := Aside0.mk (zj (g := gb491) (o := .cells #[.int .i64 0, .slice none 0 0] 26 (0, 0)) (by (with_reducible repeat (first | refine ze ?_ _ | refine zg ?_ | refine zf ?_ _)); exact BK491.out) hb)
    have n3_ := Aside0.mk (zl (by repeat (first | (with_reducible first | exact HB.out | apply zc | apply za | apply zb | refine zd ?_ GE490.out | refine zd ?_ GE491.out) | exact HB.out)) hb)
    clear BK490
    clear BK491
    clear HB
    have HO497 := n0_
    have BK490 := n1_
    have BK491 := n2_
    have HB := n3_
    clear n0_ n1_ n2_ n3_
    (try clear hb)
    (try clear hb2)
    (try clear hk)
    (try clear hi)
    (try clear ho0)
    refine hK.out _ _ ⟨(zh BK490.out 0).trans rfl, (zh BK490.out 1).trans rfl⟩ (fun hHeld => ?_)
    clear hK K
    refine jh (a' := ?_) ?_ ?_
    rotate_left
    ·show Act.put _ (some 27) _ = _
     simp only [Act.put, List.setIfInBounds_toArray, List.set_cons_zero, List.set_cons_succ, zm, zn]
     rfl
    refine jJ (i := 6) (N := some 31) #[true, true, true, true, true, true, true, true, false, false, false, false, false] rfl rfl (qM HT_.out (by kernel_rfl)) (by decide) (fun K hK => ?_)
    refine jB Try.func36 (by kernel_rfl) rfl #[.int .i64 a0_0] (by rfl) rfl rfl (by (try simp only [List.map_toArray, List.map_cons, List.map_nil]); first | done | rfl | (simp only [List.length_drop, List.length_take]; rfl)) ?_
    with_reducible refine (zZ.calls a0_0 t498 _ A28.out).mono ?_
    rintro e w' ⟨rfl, ⟨nd, rfl⟩⟩
    refine ⟨_, rfl, ?_⟩
    refine hK.out _ _ ⟨(zh BK490.out 0).trans rfl, (zh BK490.out 1).trans rfl⟩ (fun hHeld => ?_)
    clear hK K
    refine jh (a' := ?_) ?_ ?_
    rotate_left
    ·show Act.put _ (some 31) _ = _
     simp only [Act.put, List.setIfInBounds_toArray, List.set_cons_zero, List.set_cons_succ, zm, zn]
     rfl
    refine zE (i := 8) (N := some 33) (v := ?_) (a' := ?_) #[true, true, true, true, true, true, true, true, true, false, false, false, false] rfl rfl (zr HT_.out (by kernel_rfl)) (fun _ _ _ h => h) (Or.inl ⟨by rfl, ?_⟩) ?_ ?_
    rotate_left
    ·intro w'
     go_simp
     with_reducible rfl
    rotate_left
    ·simp only [Act.put, List.setIfInBounds_toArray, List.set_cons_zero, List.set_cons_succ, zm, zn]
     rfl
    refine jJ (i := 9) (N := some 34) #[true, true, true, true, true, true, true, true, true, true, false, false, false] rfl rfl (qM HT_.out (by kernel_rfl)) (by decide) (fun K hK => ?_)
    refine jB Try.func45 (by kernel_rfl) rfl #[.int .i64 a2, .int .i64 (wrap64 (t498 - a1))] (by rfl) rfl rfl (by (try simp only [List.map_toArray, List.map_cons, List.map_nil]); first | done | rfl | (simp only [List.length_drop, List.length_take]; rfl)) ?_
    with_reducible refine (qc.calls kj3 a2 (wrap64 (t498 - a1)) t499 _ A29.out).mono ?_
    rintro e w33 ⟨rfl, hb⟩
    refine ⟨_, rfl, ?_⟩
    have n0_ := Aside0.mk (Kd.qq (by (with_reducible repeat (first | apply Kd.zw | apply Kd.zx | apply Kd.zz)); exact HO497.out) hb)
    have n1_ := Aside0.mk (zj (g := gb490) (o := .cells #[.int .i64 a0_0, .slice A0_1 l0_1.length c0_1] 26 (0, 0)) (by (with_reducible repeat (first | refine ze ?_ _ | refine zg ?_ | refine zf ?_ _)); exact BK490.out) hb)
    have n2_ := Aside0.mk (zj (g := gb491) (o := .cells #[.int .i64 0, .slice none 0 0] 26 (0, 0)) (by (with_reducible repeat (first | refine ze ?_ _ | refine zg ?_ | refine zf ?_ _)); exact BK491.out) hb)
    have n3_ := Aside0.mk (zl (by repeat (first | (with_reducible first | exact HB.out | apply zc | apply za | apply zb | refine zd ?_ GE490.out | refine zd ?_ GE491.out) | exact HB.out)) hb)
    clear HO497
    clear BK490
    clear BK491
    clear HB
    have HO497 := n0_
    have BK490 := n1_
    have BK491 := n2_
    have HB := n3_
    clear n0_ n1_ n2_ n3_
    (try clear hb)
    (try clear hb2)
    (try clear hk)
    (try clear hi)
    obtain ⟨Ao34, co34, eo34⟩ := Kd.qo HO497.out
    (first | subst eo34 | (injection eo34 with f1_ f2_ f3_; have f4_ := f1_.symm; have f5_ := f3_.symm; clear f1_ f2_ f3_; subst f4_; subst f5_))
    refine hK.out _ _ ⟨(zh BK490.out 0).trans rfl, (zh BK490.out 1).trans rfl⟩ (fun hHeld => ?_)
    clear hK K
    refine jh (a' := ?_) ?_ ?_
    rotate_left
    ·show Act.put _ (some 34) _ = _
     simp only [Act.put, List.setIfInBounds_toArray, List.set_cons_zero, List.set_cons_succ, zm, zn]
     rfl
    refine jJ (i := 10) (N := some 35) #[true, true, true, true, true, true, true, true, true, true, true, false, false] rfl rfl (qM HT_.out (by kernel_rfl)) (by decide) (fun K hK => ?_)
    refine jB Try.func12 (by kernel_rfl) rfl #[.agg #[.int .i64 t494, .slice Ao34 t495.length co34], .int .i64 t499] (by rfl) rfl rfl (by (try simp only [List.map_toArray, List.map_cons, List.map_nil]); first | done | rfl | (simp only [List.length_drop, List.length_take]; rfl)) ?_
    with_reducible refine (zN.calls kj3 t494 _ _ t495 t499 t500 t501 _ ?side1 ?side2 A30.out).mono ?_
    (case side1 => repeat (first | exact (Kd.zS HO497.out).2.2 | (with_reducible refine Kd.zI ?_ _) | (with_reducible refine Kd.zH ?_ _) | (with_reducible refine Kd.zP ?_)))
    (case side2 => exact (Kd.zS HO497.out).2.1)
    rintro e w35 ⟨v502, rfl, ho0, hb⟩
    refine ⟨_, rfl, ?_⟩
    have n0_ := Aside0.mk (Kd.jo (by (with_reducible repeat (first | apply Kd.zw | apply Kd.zx | apply Kd.zz)); exact HO497.out) (Kd.jY ho0) hb)
    have n1_ := Aside0.mk (Kd.qB (Kd.jX ho0 (Kd.vL (by (with_reducible repeat (first | apply Kd.zw | apply Kd.zx | apply Kd.zz)); exact HO497.out))) (zk (by repeat (first | (with_reducible first | exact HB.out | apply zc | apply za | apply zb | refine zd ?_ GE490.out | refine zd ?_ GE491.out) | exact HB.out))))
    have n2_ := Aside0.mk (zj (g := gb490) (o := .cells #[.int .i64 a0_0, .slice A0_1 l0_1.length c0_1] 26 (0, 0)) (by (with_reducible repeat (first | refine ze ?_ _ | refine zg ?_ | refine zf ?_ _)); exact BK490.out) hb)
    have n3_ := Aside0.mk (zj (g := gb491) (o := .cells #[.int .i64 0, .slice none 0 0] 26 (0, 0)) (by (with_reducible repeat (first | refine ze ?_ _ | refine zg ?_ | refine zf ?_ _)); exact BK491.out) hb)
    have n4_ := Aside0.mk (zl (by repeat (first | (with_reducible first | exact HB.out | apply zc | apply za | apply zb | refine zd ?_ GE490.out | refine zd ?_ GE491.out) | exact HB.out)) hb)
    clear HO497
    clear BK490
    clear BK491
    clear HB
    have HO497 := n0_
    have HO503 := n1_
    have BK490 := n2_
    have BK491 := n3_
    have HB := n4_
    clear n0_ n1_ n2_ n3_ n4_
    (try clear hb)
    (try clear hb2)
    (try clear hk)
    (try clear hi)
    (try clear ho0)
    obtain ⟨Ao37, co37, eo37⟩ := Kd.qo HO503.out
    (first | subst eo37 | (injection eo37 with f1_ f2_ f3_; have f4_ := f1_.symm; have f5_ := f3_.symm; clear f1_ f2_ f3_; subst f4_; subst f5_))
    refine hK.out _ _ ⟨(zh BK490.out 0).trans rfl, (zh BK490.out 1).trans rfl⟩ (fun hHeld => ?_)
    clear hK K
    refine jh (a' := ?_) ?_ ?_
    rotate_left
    ·show Act.put _ (some 35) _ = _
     simp only [Act.put, List.setIfInBounds_toArray, List.set_cons_zero, List.set_cons_succ, zm, zn]
     rfl
    refine jJ (i := 11) (N := none) #[true, true, true, true, true, true, true, true, true, true, true, true, false] rfl rfl (qM HT_.out (by kernel_rfl)) (by decide) (fun K hK => ?_)
    have hs36 : w35.cell? ⟨gb491, 0, none⟩ = some (.int .i64 0) := (zh BK491.out 0).trans rfl
    have hfs36 := zi BK491.out 0
    have hns36_0 := NB490_491.out
    have hms36_0 := NB491_490.out
    have hs38 : w35.cell? ⟨gb491, 1, none⟩ = some (.slice none 0 0) := (zh BK491.out 1).trans rfl
    have hfs38 := zi BK491.out 1
    have hns38_0 := NB490_491.out
    have hms38_0 := NB491_490.out
    refine JI (w1 := ?_) (by rfl) rfl ?_ ?_
    rotate_left
    ·go_simp
     rfl
    refine hK.out _ _ ⟨((cell_far (p := ⟨gb491, _, none⟩) NB490_491.out _).trans (((cell_far (p := ⟨gb491, _, none⟩) NB490_491.out _).trans (hHeld.1)))), ((cell_far (p := ⟨gb491, _, none⟩) NB490_491.out _).trans (((cell_far (p := ⟨gb491, _, none⟩) NB490_491.out _).trans (hHeld.2))))⟩ (fun hHeld => ?_)
    clear hK K
    refine zE (i := 12) (N := some 7) (v := ?_) (a' := ?_) #[true, true, true, true, true, true, true, true, true, true, true, true, true] rfl rfl (zr HT_.out (by kernel_rfl)) (fun _ _ _ h => h) (Or.inl ⟨by rfl, ?_⟩) ?_ ?_
    rotate_left
    ·intro w'
     go_simp
     with_reducible rfl
    rotate_left
    ·simp only [Act.put, List.setIfInBounds_toArray, List.set_cons_zero, List.set_cons_succ, zm, zn]
     rfl
    refine j4 (jm HT_.out (by kernel_rfl)) ?_
    try go_wp2
    refine bodyPost_ret (jP rfl _ _ gb491 26 #[.int .i64 t500, .slice Ao37 t501.length co37] (0, 0) _ rfl (by (with_reducible repeat (first | refine ze ?_ _ | refine zg ?_ | refine zf ?_ _)); refine zV (cs := #[.int .i64 t500, .slice none 0 0]) ?_ 1 _ rfl; (with_reducible repeat (first | refine ze ?_ _ | refine zg ?_ | refine zf ?_ _)); refine zV (cs := #[.int .i64 0, .slice none 0 0]) ?_ 0 _ rfl; (with_reducible repeat (first | refine ze ?_ _ | refine zg ?_ | refine zf ?_ _)); exact BK491.out) Try.underlying26 rfl (by kernel_rfl)) rfl ?_
    exact ⟨_, by first | rfl | (simp [zt, zu] <;> rfl) | (simp [*, zt, zu] <;> rfl), by (with_reducible repeat (first | apply Kd.zw | apply Kd.zx | apply Kd.zz)); exact Kd.qn (Kd.qx (p := ⟨gb491, 1, none⟩) (Kd.qx (p := ⟨gb491, 0, none⟩) (Kd.qG HO503.out BK491.out (by decide)) (fun _ hk => hk.2) (.int .i64 t500)) (fun _ hk => hk.2) (.slice Ao37 t501.length co37)) (fun _ hk => trivial), by repeat (first | (with_reducible first | exact HB.out | apply zc | apply za | apply zb | refine zd ?_ GE490.out | refine zd ?_ GE491.out) | exact HB.out)⟩

end Go.Proofs.Ytkmcefhchhahhaa.F
end
section
namespace Go.Proofs.Ytkmcefhchhahhaa.F
open Go.RowKit Go.Proofs.YtkmcefhchhahhaaW.PrintWords Go.Proofs.YtkmcefhchhahhaaW.PrintLast Go.Proofs.YtkmcefhchhahhaaW.PrintMore
attribute [local go_sem] jd q8 ji jj qP qN jc q4   -- for this text's walks alone
set_option linter.unusedVariables false
set_option linter.unusedSimpArgs false

mutual
def zy.j0 : Nat → Bool → Int → List Int → Int → List Int → Option (Int × Int × Bool)
 | 0, _, _, _, _, _ => none
 | k + 1, x25, x565000, x565001, x566000, x566001 => if x25 = true then (some (0, 0, false)) else (zy.l0 k 0 x565000 x565001 x566000 x566001)
def zy.l0 : Nat → Int → Int → List Int → Int → List Int → Option (Int × Int × Bool)
 | 0, _, _, _, _, _ => none
 | k + 1, x7, x565000, x565001, x566000, x566001 => (zZ.f x565000).bind fun t568 => (if x7 ≤ t568 then (zy.l1 k x7 0 x565000 x565001 x566000 x566001) else (some (0, 0, false)))
def zy.l1 : Nat → Int → Int → Int → List Int → Int → List Int → Option (Int × Int × Bool)
 | 0, _, _, _, _, _, _ => none
 | k + 1, x7, x8, x565000, x565001, x566000, x566001 => (zZ.f x565000).bind fun t569 => (if x8 ≤ t569 then (if (Go.bits .and .i64 x7 x8) = 0 then ((z6.f k (Go.bits .or .i64 x7 x8)).bind fun t570 => (zy.j3 k x7 x8 (t570 != (wrap64 (x565000 - x566000))) x565000 x565001 x566000 x566001)) else (zy.j3 k x7 x8 true x565000 x565001 x566000 x566001)) else (zy.l0 k (wrap64 (x7 + 1)) x565000 x565001 x566000 x566001))
def zy.j3 : Nat → Int → Int → Bool → Int → List Int → Int → List Int → Option (Int × Int × Bool)
 | 0, _, _, _, _, _, _, _ => none
 | k + 1, x7, x8, x55, x565000, x565001, x566000, x566001 => if x55 = true then (zy.l1 k x7 (wrap64 (x8 + 1)) x565000 x565001 x566000 x566001) else ((zU.f k x565000 x565001 x7 x8).bind fun bt571 => ((zK.f k bt571.1 bt571.2.1 x566000 x566001).bind fun t577 => (if t577 = true then (some (x7, x8, true)) else (zy.l1 k x7 (wrap64 (x8 + 1)) x565000 x565001 x566000 x566001))))
end
def zy.f (k : Nat) (a0_0 : Int) (l0_1 : List Int) (a1_0 : Int) (l1_1 : List Int) : Option (Int × Int × Bool) := (zW.f k a0_0 l0_1).bind fun t566 => (if t566 = true then ((zW.f k a1_0 l1_1).bind fun t567 => (if t567 = true then (zy.j0 k (decide (a1_0 > a0_0)) a0_0 l0_1 a1_0 l1_1) else (zy.j0 k true a0_0 l0_1 a1_0 l1_1))) else (zy.j0 k true a0_0 l0_1 a1_0 l1_1))
theorem zy.calls (k : Nat) (a0_0 : Int) (A0_1 : Option Addr) (c0_1 : Nat) (l0_1 : List Int) (a1_0 : Int) (A1_1 : Option Addr) (c1_1 : Nat) (l1_1 : List Int) (r1 : Int) (r2 : Int) (r3 : Bool) (w : World) (hr0_1 : Kd.C (Kd.int .i64) w A0_1 l0_1.length l0_1) (hc0_1 : l0_1.length ≤ c0_1) (hr1_1 : Kd.C (Kd.int .i64) w A1_1 l1_1.length l1_1) (hc1_1 : l1_1.length ≤ c1_1) (h : zy.f k a0_0 l0_1 a1_0 l1_1 = some (r1, r2, r3)) :
  Calls Try.prog 24 #[.agg #[.int .i64 a0_0, .slice A0_1 l0_1.length c0_1], .agg #[.int .i64 a1_0, .slice A1_1 l1_1.length c1_1]] w fun e w' => e = .returned (.tuple #[.int .i64 r1, .int .i64 r2, .bool r3]) ∧ Below w.heap.size w w' := by
 have hu26 := Try.underlying26
 have HR0_1 := Aside0.mk hr0_1
 have HC0_1 := Aside0.mk hc0_1
 clear hr0_1 hc0_1
 have HR1_1 := Aside0.mk hr1_1
 have HC1_1 := Aside0.mk hc1_1
 clear hr1_1 hc1_1
 have HB := Aside0.mk (Below.refl w.heap.size w)
 have H : ((zW.f k a0_0 l0_1).bind fun t566 => (if t566 = true then ((zW.f k a1_0 l1_1).bind fun t567 => (if t567 = true then (zy.j0 k (decide (a1_0 > a0_0)) a0_0 l0_1 a1_0 l1_1) else (zy.j0 k true a0_0 l0_1 a1_0 l1_1))) else (zy.j0 k true a0_0 l0_1 a1_0 l1_1))) = some (r1, r2, r3) := h
 clear h
 have HC3 := Aside0.mk H
 clear H
 go_enter Try.func24, Try.ntmps24
 go_upto_region 1 with (first | ((with_reducible refine zD (N := 2) rfl ?_); refine zA ?hg (N := 2) ?hd (cs := #[.int .i64 a0_0, .slice A0_1 l0_1.length c0_1]) (t := 26) ?hr ?_; (case hd => rfl); (case hg => rfl); (case hr => first | (go_simp; done) | (go_simp; rfl)); intro gb564 hg w4 hbox hb; have n0_ := Aside0.mk (zl (by repeat (first | (with_reducible first | exact HB.out | apply zc | apply za | apply zb) | exact HB.out)) hb); have n1_ := Aside0.mk (hbox); have n2_ := Aside0.mk ((by rw [hg]; exact (zk (by repeat (first | (with_reducible first | exact HB.out | apply zc | apply za | apply zb) | exact HB.out))) : w.heap.size ≤ gb564)); have n3_ := Aside0.mk ((by rw [hg]; exact (zk (by repeat (first | (with_reducible first | exact HB.out | apply zc | apply za | apply zb) | exact HB.out))) : w.heap.size ≤ gb564)); clear HB; have HB := n0_; have BK564 := n1_; have GW564 := n2_; have GE564 := n3_; clear n0_ n1_ n2_ n3_; clear hb hbox hg) | ((with_reducible refine zD (N := 3) rfl ?_); refine zA ?hg (N := 3) ?hd (cs := #[.int .i64 a1_0, .slice A1_1 l1_1.length c1_1]) (t := 26) ?hr ?_; (case hd => rfl); (case hg => rfl); (case hr => first | (go_simp; done) | (go_simp; rfl)); intro gb565 hg w5 hbox hb; have n0_ := Aside0.mk (zj (g := gb564) (o := .cells #[.int .i64 a0_0, .slice A0_1 l0_1.length c0_1] 26 (0, 0)) (by (with_reducible repeat (first | refine ze ?_ _ | refine zg ?_ | refine zf ?_ _)); exact BK564.out) hb); have n1_ := Aside0.mk (zl (by repeat (first | (with_reducible first | exact HB.out | apply zc | apply za | apply zb | refine zd ?_ GE564.out) | exact HB.out)) hb); have n2_ := Aside0.mk (hbox); have n3_ := Aside0.mk ((by rw [hg]; exact (zk (by repeat (first | (with_reducible first | exact HB.out | apply zc | apply za | apply zb | refine zd ?_ GE564.out) | exact HB.out))) : w.heap.size ≤ gb565)); have n4_ := Aside0.mk ((by rw [hg]; exact (zk (by repeat (first | (with_reducible first | exact HB.out | apply zc | apply za | apply zb | refine zd ?_ GE564.out) | exact HB.out))) : w.heap.size ≤ gb565)); have n5_ := Aside0.mk ((by rw [hg]; exact Nat.ne_of_lt (zM (g := gb564) (o := .cells #[.int .i64 a0_0, .slice A0_1 l0_1.length c0_1] 26 (0, 0)) (by (with_reducible repeat (first | refine ze ?_ _ | refine zg ?_ | refine zf ?_ _)); exact BK564.out)) : gb564 ≠ gb565)); have n6_ := Aside0.mk ((by rw [hg]; exact Nat.ne_of_gt (zM (g := gb564) (o := .cells #[.int .i64 a0_0, .slice A0_1 l0_1.length c0_1] 26 (0, 0)) (by (with_reducible repeat (first | refine ze ?_ _ | refine zg ?_ | refine zf ?_ _)); exact BK564.out)) : gb565 ≠ gb564)); clear BK564; clear HB; have BK564 := n0_; have HB := n1_; have BK565 := n2_; have GW565 := n3_; have GE565 := n4_; have NB564_565 := n5_; have NB565_564 := n6_; clear n0_ n1_ n2_ n3_ n4_ n5_ n6_; clear hb hbox hg))
 repeat (go_quiet (first | ((with_reducible refine zD (N := 2) rfl ?_); refine zA ?hg (N := 2) ?hd (cs := #[.int .i64 a0_0, .slice A0_1 l0_1.length c0_1]) (t := 26) ?hr ?_; (case hd => rfl); (case hg => rfl); (case hr => first | (go_simp; done) | (go_simp; rfl)); intro gb564 hg w4 hbox hb; have n0_ := Aside0.mk (zl (by repeat (first | (with_reducible first | exact HB.out | apply zc | apply za | apply zb) | exact HB.out)) hb); have n1_ := Aside0.mk (hbox); have n2_ := Aside0.mk ((by rw [hg]; exact (zk (by repeat (first | (with_reducible first | exact HB.out | apply zc | apply za | apply zb) | exact HB.out))) : w.heap.size ≤ gb564)); have n3_ := Aside0.mk ((by rw [hg]; exact (zk (by repeat (first | (with_reducible first | exact HB.out | apply zc | apply za | apply zb) | exact HB.out))) : w.heap.size ≤ gb564)); clear HB; have HB := n0_; have BK564 := n1_; have GW564 := n2_; have GE564 := n3_; clear n0_ n1_ n2_ n3_; clear hb hbox hg) | ((with_reducible refine zD (N := 3) rfl ?_); refine zA ?hg (N := 3) ?hd (cs := #[.int .i64 a1_0, .slice A1_1 l1_1.length c1_1]) (t := 26) ?hr ?_; (case hd => rfl); (case hg => rfl); (case hr => first | (go_simp; done) | (go_simp; rfl)); intro gb565 hg w5 hbox hb; have n0_ := Aside0.mk (zj (g := gb564) (o := .cells #[.int .i64 a0_0, .slice A0_1 l0_1.length c0_1] 26 (0, 0)) (by (with_reducible repeat (first | refine ze ?_ _ | refine zg ?_ | refine zf ?_ _)); exact BK564.out) hb); have n1_ := Aside0.mk (zl (by repeat (first | (with_reducible first | exact HB.out | apply zc | apply za | apply zb | refine zd ?_ GE564.out) | exact HB.out)) hb); have n2_ := Aside0.mk (hbox); have n3_ := Aside0.mk ((by rw [hg]; exact (zk (by repeat (first | (with_reducible first | exact HB.out | apply zc | apply za | apply zb | refine zd ?_ GE564.out) | exact HB.out))) : w.heap.size ≤ gb565)); have n4_ := Aside0.mk ((by rw [hg]; exact (zk (by repeat (first | (with_reducible first | exact HB.out | apply zc | apply za | apply zb | refine zd ?_ GE564.out) | exact HB.out))) : w.heap.size ≤ gb565)); have n5_ := Aside0.mk ((by rw [hg]; exact Nat.ne_of_lt (zM (g := gb564) (o := .cells #[.int .i64 a0_0, .slice A0_1 l0_1.length c0_1] 26 (0, 0)) (by (with_reducible repeat (first | refine ze ?_ _ | refine zg ?_ | refine zf ?_ _)); exact BK564.out)) : gb564 ≠ gb565)); have n6_ := Aside0.mk ((by rw [hg]; exact Nat.ne_of_gt (zM (g := gb564) (o := .cells #[.int .i64 a0_0, .slice A0_1 l0_1.length c0_1] 26 (0, 0)) (by (with_reducible repeat (first | refine ze ?_ _ | refine zg ?_ | refine zf ?_ _)); exact BK564.out)) : gb565 ≠ gb564)); clear BK564; clear HB; have BK564 := n0_; have HB := n1_; have BK565 := n2_; have GW565 := n3_; have GE565 := n4_; have NB564_565 := n5_; have NB565_564 := n6_; clear n0_ n1_ n2_ n3_ n4_ n5_ n6_; clear hb hbox hg)); go_upto_region 1 with (first | ((with_reducible refine zD (N := 2) rfl ?_); refine zA ?hg (N := 2) ?hd (cs := #[.int .i64 a0_0, .slice A0_1 l0_1.length c0_1]) (t := 26) ?hr ?_; (case hd => rfl); (case hg => rfl); (case hr => first | (go_simp; done) | (go_simp; rfl)); intro gb564 hg w4 hbox hb; have n0_ := Aside0.mk (zl (by repeat (first | (with_reducible first | exact HB.out | apply zc | apply za | apply zb) | exact HB.out)) hb); have n1_ := Aside0.mk (hbox); have n2_ := Aside0.mk ((by rw [hg]; exact (zk (by repeat (first | (with_reducible first | exact HB.out | apply zc | apply za | apply zb) | exact HB.out))) : w.heap.size ≤ gb564)); have n3_ := Aside0.mk ((by rw [hg]; exact (zk (by repeat (first | (with_reducible first | exact HB.out | apply zc | apply za | apply zb) | exact HB.out))) : w.heap.size ≤ gb564)); clear HB; have HB := n0_; have BK564 := n1_; have GW564 := n2_; have GE564 := n3_; clear n0_ n1_ n2_ n3_; clear hb hbox hg) | ((with_reducible refine zD (N := 3) rfl ?_); refine zA ?hg (N := 3) ?hd (cs := #[.int .i64 a1_0, .slice A1_1 l1_1.length c1_1]) (t := 26) ?hr ?_; (case hd => rfl); (case hg => rfl); (case hr => first | (go_simp; done) | (go_simp; rfl)); intro gb565 hg w5 hbox hb; have n0_ := Aside0.mk (zj (g := gb564) (o := .cells #[.int .i64 a0_0, .slice A0_1 l0_1.length c0_1] 26 (0, 0)) (by (with_reducible repeat (first | refine ze ?_ _ | refine zg ?_ | refine zf ?_ _)); exact BK564.out) hb); have n1_ := Aside0.mk (zl (by repeat (first | (with_reducible first | exact HB.out | apply zc | apply za | apply zb | refine zd ?_ GE564.out) | exact HB.out)) hb); have n2_ := Aside0.mk (hbox); have n3_ := Aside0.mk ((by rw [hg]; exact (zk (by repeat (first | (with_reducible first | exact HB.out | apply zc | apply za | apply zb | refine zd ?_ GE564.out) | exact HB.out))) : w.heap.size ≤ gb565)); have n4_ := Aside0.mk ((by rw [hg]; exact (zk (by repeat (first | (with_reducible first | exact HB.out | apply zc | apply za | apply zb | refine zd ?_ GE564.out) | exact HB.out))) : w.heap.size ≤ gb565)); have n5_ := Aside0.mk ((by rw [hg]; exact Nat.ne_of_lt (zM (g := gb564) (o := .cells #[.int .i64 a0_0, .slice A0_1 l0_1.length c0_1] 26 (0, 0)) (by (with_reducible repeat (first | refine ze ?_ _ | refine zg ?_ | refine zf ?_ _)); exact BK564.out)) : gb564 ≠ gb565)); have n6_ := Aside0.mk ((by rw [hg]; exact Nat.ne_of_gt (zM (g := gb564) (o := .cells #[.int .i64 a0_0, .slice A0_1 l0_1.length c0_1] 26 (0, 0)) (by (with_reducible repeat (first | refine ze ?_ _ | refine zg ?_ | refine zf ?_ _)); exact BK564.out)) : gb565 ≠ gb564)); clear BK564; clear HB; have BK564 := n0_; have HB := n1_; have BK565 := n2_; have GW565 := n3_; have GE565 := n4_; have NB564_565 := n5_; have NB565_564 := n6_; clear n0_ n1_ n2_ n3_ n4_ n5_ n6_; clear hb hbox hg)))
 (try simp only [Act.put, List.setIfInBounds_toArray, List.set_cons_zero, List.set_cons_succ])
 go_cut [25] (fun v25 wc => ∃ (kq : Nat) (x25_2 : Bool), v25 = .bool x25_2 ∧ Aside0 (zy.j0 kq x25_2 a0_0 l0_1 a1_0 l1_1 = some (r1, r2, r3)) ∧ Aside0 (kq ≤ k) ∧ Aside0 (wc.heap[gb564]? = some (.cells #[.int .i64 a0_0, (.slice A0_1 l0_1.length c0_1)] 26 (0, 0))) ∧ Aside0 (wc.heap[gb565]? = some (.cells #[.int .i64 a1_0, (.slice A1_1 l1_1.length c1_1)] 26 (0, 0))) ∧ Aside0 (Below w.heap.size w wc))
 case first =>
  have H := HC3.out
  clear HC3
  replace H := Option.bind_eq_some_iff.mp H
  obtain ⟨t566, A60, H⟩ := H
  replace H : (if t566 = true then ((zW.f k a1_0 l1_1).bind fun t567 => (if t567 = true then (zy.j0 k (decide (a1_0 > a0_0)) a0_0 l0_1 a1_0 l1_1) else (zy.j0 k true a0_0 l0_1 a1_0 l1_1))) else (zy.j0 k true a0_0 l0_1 a1_0 l1_1)) = some (r1, r2, r3) := H
  have A6 := Aside0.mk A60
  clear A60
  by_cases c7 : t566 = true
  ·subst c7
   have H1 : ((zW.f k a1_0 l1_1).bind fun t567 => (if t567 = true then (zy.j0 k (decide (a1_0 > a0_0)) a0_0 l0_1 a1_0 l1_1) else (zy.j0 k true a0_0 l0_1 a1_0 l1_1))) = some (r1, r2, r3) := by rw [if_pos rfl] at H; exact H
   clear H
   have H := H1
   clear H1
   replace H := Option.bind_eq_some_iff.mp H
   obtain ⟨t567, A80, H⟩ := H
   replace H : (if t567 = true then (zy.j0 k (decide (a1_0 > a0_0)) a0_0 l0_1 a1_0 l1_1) else (zy.j0 k true a0_0 l0_1 a1_0 l1_1)) = some (r1, r2, r3) := H
   have A8 := Aside0.mk A80
   clear A80
   by_cases c9 : t567 = true
   ·subst c9
    have H1 : (zy.j0 k (decide (a1_0 > a0_0)) a0_0 l0_1 a1_0 l1_1) = some (r1, r2, r3) := by rw [if_pos rfl] at H; exact H
    clear H
    have H := H1
    clear H1
    have H' := Aside0.mk H
    clear H
    have hnb10 := NB564_565.out
    have hnc10 := NB565_564.out
    have hcz11_0 : w5.cell? ⟨gb564, 0, none⟩ = some (.int .i64 a0_0) := (zh BK564.out 0).trans rfl
    have hcz11_1 : w5.cell? ⟨gb564, 1, none⟩ = some (.slice A0_1 l0_1.length c0_1) := (zh BK564.out 1).trans rfl
    have hfz11_0 := zi BK564.out 0
    have hfz11_1 := zi BK564.out 1
    go_wp2_with (first | (go_at_call 46; (try simp only [zm, zn]); (with_reducible refine (zW.calls k a0_0 _ _ l0_1 true _ ?side1 ?side2 A6.out).mono ?_); (case side1 => repeat (first | exact (Kd.zG HR0_1.out HB.out) | (with_reducible refine Kd.zI ?_ _) | (with_reducible refine Kd.zH ?_ _) | (with_reducible refine Kd.zP ?_))); (case side2 => exact HC0_1.out); rintro e w12 ⟨rfl, hb⟩; have n0_ := Aside0.mk (zj (g := gb564) (o := .cells #[.int .i64 a0_0, .slice A0_1 l0_1.length c0_1] 26 (0, 0)) (by (with_reducible repeat (first | refine ze ?_ _ | refine zg ?_ | refine zf ?_ _)); exact BK564.out) hb); have n1_ := Aside0.mk (zj (g := gb565) (o := .cells #[.int .i64 a1_0, .slice A1_1 l1_1.length c1_1] 26 (0, 0)) (by (with_reducible repeat (first | refine ze ?_ _ | refine zg ?_ | refine zf ?_ _)); exact BK565.out) hb); have n2_ := Aside0.mk (zl (by repeat (first | (with_reducible first | exact HB.out | apply zc | apply za | apply zb | refine zd ?_ GE564.out | refine zd ?_ GE565.out) | exact HB.out)) hb); clear BK564; clear BK565; clear HB; have BK564 := n0_; have BK565 := n1_; have HB := n2_; clear n0_ n1_ n2_; (try clear hb); (try clear hb2); (try clear hk); (try clear hi); have hcz13_0 : w12.cell? ⟨gb565, 0, none⟩ = some (.int .i64 a1_0) := (zh BK565.out 0).trans rfl; have hcz13_1 : w12.cell? ⟨gb565, 1, none⟩ = some (.slice A1_1 l1_1.length c1_1) := (zh BK565.out 1).trans rfl; have hfz13_0 := zi BK565.out 0; have hfz13_1 := zi BK565.out 1) | (go_at_call 46; (try simp only [zm, zn]); (with_reducible refine (zW.calls k a1_0 _ _ l1_1 true _ ?side1 ?side2 A8.out).mono ?_); (case side1 => repeat (first | exact (Kd.zG HR1_1.out HB.out) | (with_reducible refine Kd.zI ?_ _) | (with_reducible refine Kd.zH ?_ _) | (with_reducible refine Kd.zP ?_))); (case side2 => exact HC1_1.out); rintro e w14 ⟨rfl, hb⟩; have n0_ := Aside0.mk (zj (g := gb564) (o := .cells #[.int .i64 a0_0, .slice A0_1 l0_1.length c0_1] 26 (0, 0)) (by (with_reducible repeat (first | refine ze ?_ _ | refine zg ?_ | refine zf ?_ _)); exact BK564.out) hb); have n1_ := Aside0.mk (zj (g := gb565) (o := .cells #[.int .i64 a1_0, .slice A1_1 l1_1.length c1_1] 26 (0, 0)) (by (with_reducible repeat (first | refine ze ?_ _ | refine zg ?_ | refine zf ?_ _)); exact BK565.out) hb); have n2_ := Aside0.mk (zl (by repeat (first | (with_reducible first | exact HB.out | apply zc | apply za | apply zb | refine zd ?_ GE564.out | refine zd ?_ GE565.out) | exact HB.out)) hb); clear BK564; clear BK565; clear HB; have BK564 := n0_; have BK565 := n1_; have HB := n2_; clear n0_ n1_ n2_; (try clear hb); (try clear hb2); (try clear hk); (try clear hi); have hcz15_0 : w14.cell? ⟨gb565, 0, none⟩ = some (.int .i64 a1_0) := (zh BK565.out 0).trans rfl; have hcz15_1 : w14.cell? ⟨gb565, 1, none⟩ = some (.slice A1_1 l1_1.length c1_1) := (zh BK565.out 1).trans rfl; have hfz15_0 := zi BK565.out 0; have hfz15_1 := zi BK565.out 1; have hcz16_0 : w14.cell? ⟨gb564, 0, none⟩ = some (.int .i64 a0_0) := (zh BK564.out 0).trans rfl; have hcz16_1 : w14.cell? ⟨gb564, 1, none⟩ = some (.slice A0_1 l0_1.length c0_1) := (zh BK564.out 1).trans rfl; have hfz16_0 := zi BK564.out 0; have hfz16_1 := zi BK564.out 1))
    repeat (go_quiet (first | (go_at_call 46; (try simp only [zm, zn]); (with_reducible refine (zW.calls k a0_0 _ _ l0_1 true _ ?side1 ?side2 A6.out).mono ?_); (case side1 => repeat (first | exact (Kd.zG HR0_1.out HB.out) | (with_reducible refine Kd.zI ?_ _) | (with_reducible refine Kd.zH ?_ _) | (with_reducible refine Kd.zP ?_))); (case side2 => exact HC0_1.out); rintro e w12 ⟨rfl, hb⟩; have n0_ := Aside0.mk (zj (g := gb564) (o := .cells #[.int .i64 a0_0, .slice A0_1 l0_1.length c0_1] 26 (0, 0)) (by (with_reducible repeat (first | refine ze ?_ _ | refine zg ?_ | refine zf ?_ _)); exact BK564.out) hb); have n1_ := Aside0.mk (zj (g := gb565) (o := .cells #[.int .i64 a1_0, .slice A1_1 l1_1.length c1_1] 26 (0, 0)) (by (with_reducible repeat (first | refine ze ?_ _ | refine zg ?_ | refine zf ?_ _)); exact BK565.out) hb); have n2_ := Aside0.mk (zl (by repeat (first | (with_reducible first | exact HB.out | apply zc | apply za | apply zb | refine zd ?_ GE564.out | refine zd ?_ GE565.out) | exact HB.out)) hb); clear BK564; clear BK565; clear HB; have BK564 := n0_; have BK565 := n1_; have HB := n2_; clear n0_ n1_ n2_; (try clear hb); (try clear hb2); (try clear hk); (try clear hi); have hcz13_0 : w12.cell? ⟨gb565, 0, none⟩ = some (.int .i64 a1_0) := (zh BK565.out 0).trans rfl; have hcz13_1 : w12.cell? ⟨gb565, 1, none⟩ = some (.slice A1_1 l1_1.length c1_1) := (zh BK565.out 1).trans rfl; have hfz13_0 := zi BK565.out 0; have hfz13_1 := zi BK565.out 1) | (go_at_call 46; (try simp only [zm, zn]); (with_reducible refine (zW.calls k a1_0 _ _ l1_1 true _ ?side1 ?side2 A8.out).mono ?_); (case side1 => repeat (first | exact (Kd.zG HR1_1.out HB.out) | (with_reducible refine Kd.zI ?_ _) | (with_reducible refine Kd.zH ?_ _) | (with_reducible refine Kd.zP ?_))); (case side2 => exact HC1_1.out); rintro e w14 ⟨rfl, hb⟩; have n0_ := Aside0.mk (zj (g := gb564) (o := .cells #[.int .i64 a0_0, .slice A0_1 l0_1.length c0_1] 26 (0, 0)) (by (with_reducible repeat (first | refine ze ?_ _ | refine zg ?_ | refine zf ?_ _)); exact BK564.out) hb); have n1_ := Aside0.mk (zj (g := gb565) (o := .cells #[.int .i64 a1_0, .slice A1_1 l1_1.length c1_1] 26 (0, 0)) (by (with_reducible repeat (first | refine ze ?_ _ | refine zg ?_ | refine zf ?_ _)); exact BK565.out) hb); have n2_ := Aside0.mk (zl (by repeat (first | (with_reducible first | exact HB.out | apply zc | apply za | apply zb | refine zd ?_ GE564.out | refine zd ?_ GE565.out) | exact HB.out)) hb); clear BK564; clear BK565; clear HB; have BK564 := n0_; have BK565 := n1_; have HB := n2_; clear n0_ n1_ n2_; (try clear hb); (try clear hb2); (try clear hk); (try clear hi); have hcz15_0 : w14.cell? ⟨gb565, 0, none⟩ = some (.int .i64 a1_0) := (zh BK565.out 0).trans rfl; have hcz15_1 : w14.cell? ⟨gb565, 1, none⟩ = some (.slice A1_1 l1_1.length c1_1) := (zh BK565.out 1).trans rfl; have hfz15_0 := zi BK565.out 0; have hfz15_1 := zi BK565.out 1; have hcz16_0 : w14.cell? ⟨gb564, 0, none⟩ = some (.int .i64 a0_0) := (zh BK564.out 0).trans rfl; have hcz16_1 : w14.cell? ⟨gb564, 1, none⟩ = some (.slice A0_1 l0_1.length c0_1) := (zh BK564.out 1).trans rfl; have hfz16_0 := zi BK564.out 0; have hfz16_1 := zi BK564.out 1)); try go_wp2_with (first | (go_at_call 46; (try simp only [zm, zn]); (with_reducible refine (zW.calls k a0_0 _ _ l0_1 true _ ?side1 ?side2 A6.out).mono ?_); (case side1 => repeat (first | exact (Kd.zG HR0_1.out HB.out) | (with_reducible refine Kd.zI ?_ _) | (with_reducible refine Kd.zH ?_ _) | (with_reducible refine Kd.zP ?_))); (case side2 => exact HC0_1.out); rintro e w12 ⟨rfl, hb⟩; have n0_ := Aside0.mk (zj (g := gb564) (o := .cells #[.int .i64 a0_0, .slice A0_1 l0_1.length c0_1] 26 (0, 0)) (by (with_reducible repeat (first | refine ze ?_ _ | refine zg ?_ | refine zf ?_ _)); exact BK564.out) hb); have n1_ := Aside0.mk (zj (g := gb565) (o := .cells #[.int .i64 a1_0, .slice A1_1 l1_1.length c1_1] 26 (0, 0)) (by (with_reducible repeat (first | refine ze ?_ _ | refine zg ?_ | refine zf ?_ _)); exact BK565.out) hb); have n2_ := Aside0.mk (zl (by repeat (first | (with_reducible first | exact HB.out | apply zc | apply za | apply zb | refine zd ?_ GE564.out | refine zd ?_ GE565.out) | exact HB.out)) hb); clear BK564; clear BK565; clear HB; have BK564 := n0_; have BK565 := n1_; have HB := n2_; clear n0_ n1_ n2_; (try clear hb); (try clear hb2); (try clear hk); (try clear hi); have hcz13_0 : w12.cell? ⟨gb565, 0, none⟩ = some (.int .i64 a1_0) := (zh BK565.out 0).trans rfl; have hcz13_1 : w12.cell? ⟨gb565, 1, none⟩ = some (.slice A1_1 l1_1.length c1_1) := (zh BK565.out 1).trans rfl; have hfz13_0 := zi BK565.out 0; have hfz13_1 := zi BK565.out 1) | (go_at_call 46; (try simp only [zm, zn]); (with_reducible refine (zW.calls k a1_0 _ _ l1_1 true _ ?side1 ?side2 A8.out).mono ?_); (case side1 => repeat (first | exact (Kd.zG HR1_1.out HB.out) | (with_reducible refine Kd.zI ?_ _) | (with_reducible refine Kd.zH ?_ _) | (with_reducible refine Kd.zP ?_))); (case side2 => exact HC1_1.out); rintro e w14 ⟨rfl, hb⟩; have n0_ := Aside0.mk (zj (g := gb564) (o := .cells #[.int .i64 a0_0, .slice A0_1 l0_1.length c0_1] 26 (0, 0)) (by (with_reducible repeat (first | refine ze ?_ _ | refine zg ?_ | refine zf ?_ _)); exact BK564.out) hb); have n1_ := Aside0.mk (zj (g := gb565) (o := .cells #[.int .i64 a1_0, .slice A1_1 l1_1.length c1_1] 26 (0, 0)) (by (with_reducible repeat (first | refine ze ?_ _ | refine zg ?_ | refine zf ?_ _)); exact BK565.out) hb); have n2_ := Aside0.mk (zl (by repeat (first | (with_reducible first | exact HB.out | apply zc | apply za | apply zb | refine zd ?_ GE564.out | refine zd ?_ GE565.out) | exact HB.out)) hb); clear BK564; clear BK565; clear HB; have BK564 := n0_; have BK565 := n1_; have HB := n2_; clear n0_ n1_ n2_; (try clear hb); (try clear hb2); (try clear hk); (try clear hi); have hcz15_0 : w14.cell? ⟨gb565, 0, none⟩ = some (.int .i64 a1_0) := (zh BK565.out 0).trans rfl; have hcz15_1 : w14.cell? ⟨gb565, 1, none⟩ = some (.slice A1_1 l1_1.length c1_1) := (zh BK565.out 1).trans rfl; have hfz15_0 := zi BK565.out 0; have hfz15_1 := zi BK565.out 1; have hcz16_0 : w14.cell? ⟨gb564, 0, none⟩ = some (.int .i64 a0_0) := (zh BK564.out 0).trans rfl; have hcz16_1 : w14.cell? ⟨gb564, 1, none⟩ = some (.slice A0_1 l0_1.length c0_1) := (zh BK564.out 1).trans rfl; have hfz16_0 := zi BK564.out 0; have hfz16_1 := zi BK564.out 1)))
    go_meet
    case rel => exact ⟨_, (decide (a1_0 > a0_0)), (by first | rfl | (simp; done) | (simp [*]; done)), H', ⟨by first | omega | exact Nat.le_refl _⟩, ⟨by (with_reducible repeat (first | refine ze ?_ _ | refine zg ?_ | refine zf ?_ _)); exact BK564.out⟩, ⟨by (with_reducible repeat (first | refine ze ?_ _ | refine zg ?_ | refine zf ?_ _)); exact BK565.out⟩, ⟨by repeat (first | (with_reducible first | exact HB.out | apply zc | apply za | apply zb | refine zd ?_ GE564.out | refine zd ?_ GE565.out) | exact HB.out)⟩⟩
   ·replace c9 := Bool.eq_false_iff.mpr c9
    subst c9
    have H1 : (zy.j0 k true a0_0 l0_1 a1_0 l1_1) = some (r1, r2, r3) := by rw [if_neg (show ¬ (false = true) by decide)] at H; exact H
    clear H
    have H := H1
    clear H1
    have H' := Aside0.mk H
    clear H
    have hnb17 := NB564_565.out
    have hnc17 := NB565_564.out
    have hcz18_0 : w5.cell? ⟨gb564, 0, none⟩ = some (.int .i64 a0_0) := (zh BK564.out 0).trans rfl
    have hcz18_1 : w5.cell? ⟨gb564, 1, none⟩ = some (.slice A0_1 l0_1.length c0_1) := (zh BK564.out 1).trans rfl
    have hfz18_0 := zi BK564.out 0
    have hfz18_1 := zi BK564.out 1
    go_wp2_with (first | (go_at_call 46; (try simp only [zm, zn]); (with_reducible refine (zW.calls k a0_0 _ _ l0_1 true _ ?side1 ?side2 A6.out).mono ?_); (case side1 => repeat (first | exact (Kd.zG HR0_1.out HB.out) | (with_reducible refine Kd.zI ?_ _) | (with_reducible refine Kd.zH ?_ _) | (with_reducible refine Kd.zP ?_))); (case side2 => exact HC0_1.out); rintro e w19 ⟨rfl, hb⟩; have n0_ := Aside0.mk (zj (g := gb564) (o := .cells #[.int .i64 a0_0, .slice A0_1 l0_1.length c0_1] 26 (0, 0)) (by (with_reducible repeat (first | refine ze ?_ _ | refine zg ?_ | refine zf ?_ _)); exact BK564.out) hb); have n1_ := Aside0.mk (zj (g := gb565) (o := .cells #[.int .i64 a1_0, .slice A1_1 l1_1.length c1_1] 26 (0, 0)) (by (with_reducible repeat (first | refine ze ?_ _ | refine zg ?_ | refine zf ?_ _)); exact BK565.out) hb); have n2_ := Aside0.mk (zl (by repeat (first | (with_reducible first | exact HB.out | apply zc | apply za | apply zb | refine zd ?_ GE564.out | refine zd ?_ GE565.out) | exact HB.out)) hb); clear BK564; clear BK565; clear HB; have BK564 := n0_; have BK565 := n1_; have HB := n2_; clear n0_ n1_ n2_; (try clear hb); (try clear hb2); (try clear hk); (try clear hi); have hcz20_0 : w19.cell? ⟨gb565, 0, none⟩ = some (.int .i64 a1_0) := (zh BK565.out 0).trans rfl; have hcz20_1 : w19.cell? ⟨gb565, 1, none⟩ = some (.slice A1_1 l1_1.length c1_1) := (zh BK565.out 1).trans rfl; have hfz20_0 := zi BK565.out 0; have hfz20_1 := zi BK565.out 1) | (go_at_call 46; (try simp only [zm, zn]); (with_reducible refine (zW.calls k a1_0 _ _ l1_1 false _ ?side1 ?side2 A8.out).mono ?_); (case side1 => repeat (first | exact (Kd.zG HR1_1.out HB.out) | (with_reducible refine Kd.zI ?_ _) | (with_reducible refine Kd.zH ?_ _) | (with_reducible refine Kd.zP ?_))); (case side2 => exact HC1_1.out); rintro e w21 ⟨rfl, hb⟩; have n0_ := Aside0.mk (zj (g := gb564) (o := .cells #[.int .i64 a0_0, .slice A0_1 l0_1.length c0_1] 26 (0, 0)) (by (with_reducible repeat (first | refine ze ?_ _ | refine zg ?_ | refine zf ?_ _)); exact BK564.out) hb); have n1_ := Aside0.mk (zj (g := gb565) (o := .cells #[.int .i64 a1_0, .slice A1_1 l1_1.length c1_1] 26 (0, 0)) (by (with_reducible repeat (first | refine ze ?_ _ | refine zg ?_ | refine zf ?_ _)); exact BK565.out) hb); have n2_ := Aside0.mk (zl (by repeat (first | (with_reducible first | exact HB.out | apply zc | apply za | apply zb | refine zd ?_ GE564.out | refine zd ?_ GE565.out) | exact HB.out)) hb); clear BK564; clear BK565; clear HB; have BK564 := n0_; have BK565 := n1_; have HB := n2_; clear n0_ n1_ n2_; (try clear hb); (try clear hb2); (try clear hk); (try clear hi)))
    repeat (go_quiet (first | (go_at_call 46; (try simp only [zm, zn]); (with_reducible refine (zW.calls k a0_0 _ _ l0_1 true _ ?side1 ?side2 A6.out).mono ?_); (case side1 => repeat (first | exact (Kd.zG HR0_1.out HB.out) | (with_reducible refine Kd.zI ?_ _) | (with_reducible refine Kd.zH ?_ _) | (with_reducible refine Kd.zP ?_))); (case side2 => exact HC0_1.out); rintro e w19 ⟨rfl, hb⟩; have n0_ := Aside0.mk (zj (g := gb564) (o := .cells #[.int .i64 a0_0, .slice A0_1 l0_1.length c0_1] 26 (0, 0)) (by (with_reducible repeat (first | refine ze ?_ _ | refine zg ?_ | refine zf ?_ _)); exact BK564.out) hb); have n1_ := Aside0.mk (zj (g := gb565) (o := .cells #[.int .i64 a1_0, .slice A1_1 l1_1.length c1_1] 26 (0, 0)) (by (with_reducible repeat (first | refine ze ?_ _ | refine zg ?_ | refine zf ?_ _)); exact BK565.out) hb); have n2_ := Aside0.mk (zl (by repeat (first | (with_reducible first | exact HB.out | apply zc | apply za | apply zb | refine zd ?_ GE564.out | refine zd ?_ GE565.out) | exact HB.out)) hb); clear BK564; clear BK565; clear HB; have BK564 := n0_; have BK565 := n1_; have HB := n2_; clear n0_ n1_ n2_; (try clear hb); (try clear hb2); (try clear hk); (try clear hi); have hcz20_0 : w19.cell? ⟨gb565, 0, none⟩ = some (.int .i64 a1_0) := (zh BK565.out 0).trans rfl; have hcz20_1 : w19.cell? ⟨gb565, 1, none⟩ = some (.slice A1_1 l1_1.length c1_1) := (zh BK565.out 1).trans rfl; have hfz20_0 := zi BK565.out 0; have hfz20_1 := zi BK565.out 1) | (go_at_call 46; (try simp only [zm, zn]); (with_reducible refine (zW.calls k a1_0 _ _ l1_1 false _ ?side1 ?side2 A8.out).mono ?_); (case side1 => repeat (first | exact (Kd.zG HR1_1.out HB.out) | (with_reducible refine Kd.zI ?_ _) | (with_reducible refine Kd.zH ?_ _) | (with_reducible refine Kd.zP ?_))); (case side2 => exact HC1_1.out); rintro e w21 ⟨rfl, hb⟩; have n0_ := Aside0.mk (zj (g := gb564) (o := .cells #[.int .i64 a0_0, .slice A0_1 l0_1.length c0_1] 26 (0, 0)) (by (with_reducible repeat (first | refine ze ?_ _ | refine zg ?_ | refine zf ?_ _)); exact BK564.out) hb); have n1_ := Aside0.mk (zj (g := gb565) (o := .cells #[.int .i64 a1_0, .slice A1_1 l1_1.length c1_1] 26 (0, 0)) (by (with_reducible repeat (first | refine ze ?_ _ | refine zg ?_ | refine zf ?_ _)); exact BK565.out) hb); have n2_ := Aside0.mk (zl (by repeat (first | (with_reducible first | exact HB.out | apply zc | apply za | apply zb | refine zd ?_ GE564.out | refine zd ?_ GE565.out) | exact HB.out)) hb); clear BK564; clear BK565; clear HB; have BK564 := n0_; have BK565 := n1_; have HB := n2_; clear n0_ n1_ n2_; (try clear hb); (try clear hb2); (try clear hk); (try clear hi))); try go_wp2_with (first | (go_at_call 46; (try simp only [zm, zn]); (with_reducible refine (zW.calls k a0_0 _ _ l0_1 true _ ?side1 ?side2 A6.out).mono ?_); (case side1 => repeat (first | exact (Kd.zG HR0_1.out HB.out) | (with_reducible refine Kd.zI ?_ _) | (with_reducible refine Kd.zH ?_ _) | (with_reducible refine Kd.zP ?_))); (case side2 => exact HC0_1.out); rintro e w19 ⟨rfl, hb⟩; have n0_ := Aside0.mk (zj (g := gb564) (o := .cells #[.int .i64 a0_0, .slice A0_1 l0_1.length c0_1] 26 (0, 0)) (by (with_reducible repeat (first | refine ze ?_ _ | refine zg ?_ | refine zf ?_ _)); exact BK564.out) hb); have n1_ := Aside0.mk (zj (g := gb565) (o := .cells #[.int .i64 a1_0, .slice A1_1 l1_1.length c1_1] 26 (0, 0)) (by (with_reducible repeat (first | refine ze ?_ _ | refine zg ?_ | refine zf ?_ _)); exact BK565.out) hb); have n2_ := Aside0.mk (zl (by repeat (first | (with_reducible first | exact HB.out | apply zc | apply za | apply zb | refine zd ?_ GE564.out | refine zd ?_ GE565.out) | exact HB.out)) hb); clear BK564; clear BK565; clear HB; have BK564 := n0_; have BK565 := n1_; have HB := n2_; clear n0_ n1_ n2_; (try clear hb); (try clear hb2); (try clear hk); (try clear hi); have hcz20_0 : w19.cell? ⟨gb565, 0, none⟩ = some (.int .i64 a1_0) := (zh BK565.out 0).trans rfl; have hcz20_1 : w19.cell? ⟨gb565, 1, none⟩ = some (.slice A1_1 l1_1.length c1_1) := (zh BK565.out 1).trans rfl; have hfz20_0 := zi BK565.out 0; have hfz20_1 := zi BK565.out 1) | (go_at_call 46; (try simp only [zm, zn]); (with_reducible refine (zW.calls k a1_0 _ _ l1_1 false _ ?side1 ?side2 A8.out).mono ?_); (case side1 => repeat (first | exact (Kd.zG HR1_1.out HB.out) | (with_reducible refine Kd.zI ?_ _) | (with_reducible refine Kd.zH ?_ _) | (with_reducible refine Kd.zP ?_))); (case side2 => exact HC1_1.out); rintro e w21 ⟨rfl, hb⟩; have n0_ := Aside0.mk (zj (g := gb564) (o := .cells #[.int .i64 a0_0, .slice A0_1 l0_1.length c0_1] 26 (0, 0)) (by (with_reducible repeat (first | refine ze ?_ _ | refine zg ?_ | refine zf ?_ _)); exact BK564.out) hb); have n1_ := Aside0.mk (zj (g := gb565) (o := .cells #[.int .i64 a1_0, .slice A1_1 l1_1.length c1_1] 26 (0, 0)) (by (with_reducible repeat (first | refine ze ?_ _ | refine zg ?_ | refine zf ?_ _)); exact BK565.out) hb); have n2_ := Aside0.mk (zl (by repeat (first | (with_reducible first | exact HB.out | apply zc | apply za | apply zb | refine zd ?_ GE564.out | refine zd ?_ GE565.out) | exact HB.out)) hb); clear BK564; clear BK565; clear HB; have BK564 := n0_; have BK565 := n1_; have HB := n2_; clear n0_ n1_ n2_; (try clear hb); (try clear hb2); (try clear hk); (try clear hi))))
    go_meet
    case rel => exact ⟨_, (true), (by first | rfl | (simp; done) | (simp [*]; done)), H', ⟨by first | omega | exact Nat.le_refl _⟩, ⟨by (with_reducible repeat (first | refine ze ?_ _ | refine zg ?_ | refine zf ?_ _)); exact BK564.out⟩, ⟨by (with_reducible repeat (first | refine ze ?_ _ | refine zg ?_ | refine zf ?_ _)); exact BK565.out⟩, ⟨by repeat (first | (with_reducible first | exact HB.out | apply zc | apply za | apply zb | refine zd ?_ GE564.out | refine zd ?_ GE565.out) | exact HB.out)⟩⟩
  ·replace c7 := Bool.eq_false_iff.mpr c7
   subst c7
   have H1 : (zy.j0 k true a0_0 l0_1 a1_0 l1_1) = some (r1, r2, r3) := by rw [if_neg (show ¬ (false = true) by decide)] at H; exact H
   clear H
   have H := H1
   clear H1
   have H' := Aside0.mk H
   clear H
   have hnb22 := NB564_565.out
   have hnc22 := NB565_564.out
   have hcz23_0 : w5.cell? ⟨gb564, 0, none⟩ = some (.int .i64 a0_0) := (zh BK564.out 0).trans rfl
   have hcz23_1 : w5.cell? ⟨gb564, 1, none⟩ = some (.slice A0_1 l0_1.length c0_1) := (zh BK564.out 1).trans rfl
   have hfz23_0 := zi BK564.out 0
   have hfz23_1 := zi BK564.out 1
   go_wp2_with (first | (go_at_call 46; (try simp only [zm, zn]); (with_reducible refine (zW.calls k a0_0 _ _ l0_1 false _ ?side1 ?side2 A6.out).mono ?_); (case side1 => repeat (first | exact (Kd.zG HR0_1.out HB.out) | (with_reducible refine Kd.zI ?_ _) | (with_reducible refine Kd.zH ?_ _) | (with_reducible refine Kd.zP ?_))); (case side2 => exact HC0_1.out); rintro e w24 ⟨rfl, hb⟩; have n0_ := Aside0.mk (zj (g := gb564) (o := .cells #[.int .i64 a0_0, .slice A0_1 l0_1.length c0_1] 26 (0, 0)) (by (with_reducible repeat (first | refine ze ?_ _ | refine zg ?_ | refine zf ?_ _)); exact BK564.out) hb); have n1_ := Aside0.mk (zj (g := gb565) (o := .cells #[.int .i64 a1_0, .slice A1_1 l1_1.length c1_1] 26 (0, 0)) (by (with_reducible repeat (first | refine ze ?_ _ | refine zg ?_ | refine zf ?_ _)); exact BK565.out) hb); have n2_ := Aside0.mk (zl (by repeat (first | (with_reducible first | exact HB.out | apply zc | apply za | apply zb | refine zd ?_ GE564.out | refine zd ?_ GE565.out) | exact HB.out)) hb); clear BK564; clear BK565; clear HB; have BK564 := n0_; have BK565 := n1_; have HB := n2_; clear n0_ n1_ n2_; (try clear hb); (try clear hb2); (try clear hk); (try clear hi)))
   repeat (go_quiet (first | (go_at_call 46; (try simp only [zm, zn]); (with_reducible refine (zW.calls k a0_0 _ _ l0_1 false _ ?side1 ?side2 A6.out).mono ?_); (case side1 => repeat (first | exact (Kd.zG HR0_1.out HB.out) | (with_reducible refine Kd.zI ?_ _) | (with_reducible refine Kd.zH ?_ _) | (with_reducible refine Kd.zP ?_))); (case side2 => exact HC0_1.out); rintro e w24 ⟨rfl, hb⟩; have n0_ := Aside0.mk (zj (g := gb564) (o := .cells #[.int .i64 a0_0, .slice A0_1 l0_1.length c0_1] 26 (0, 0)) (by (with_reducible repeat (first | refine ze ?_ _ | refine zg ?_ | refine zf ?_ _)); exact BK564.out) hb); have n1_ := Aside0.mk (zj (g := gb565) (o := .cells #[.int .i64 a1_0, .slice A1_1 l1_1.length c1_1] 26 (0, 0)) (by (with_reducible repeat (first | refine ze ?_ _ | refine zg ?_ | refine zf ?_ _)); exact BK565.out) hb); have n2_ := Aside0.mk (zl (by repeat (first | (with_reducible first | exact HB.out | apply zc | apply za | apply zb | refine zd ?_ GE564.out | refine zd ?_ GE565.out) | exact HB.out)) hb); clear BK564; clear BK565; clear HB; have BK564 := n0_; have BK565 := n1_; have HB := n2_; clear n0_ n1_ n2_; (try clear hb); (try clear hb2); (try clear hk); (try clear hi))); try go_wp2_with (first | (go_at_call 46; (try simp only [zm, zn]); (with_reducible refine (zW.calls k a0_0 _ _ l0_1 false _ ?side1 ?side2 A6.out).mono ?_); (case side1 => repeat (first | exact (Kd.zG HR0_1.out HB.out) | (with_reducible refine Kd.zI ?_ _) | (with_reducible refine Kd.zH ?_ _) | (with_reducible refine Kd.zP ?_))); (case side2 => exact HC0_1.out); rintro e w24 ⟨rfl, hb⟩; have n0_ := Aside0.mk (zj (g := gb564) (o := .cells #[.int .i64 a0_0, .slice A0_1 l0_1.length c0_1] 26 (0, 0)) (by (with_reducible repeat (first | refine ze ?_ _ | refine zg ?_ | refine zf ?_ _)); exact BK564.out) hb); have n1_ := Aside0.mk (zj (g := gb565) (o := .cells #[.int .i64 a1_0, .slice A1_1 l1_1.length c1_1] 26 (0, 0)) (by (with_reducible repeat (first | refine ze ?_ _ | refine zg ?_ | refine zf ?_ _)); exact BK565.out) hb); have n2_ := Aside0.mk (zl (by repeat (first | (with_reducible first | exact HB.out | apply zc | apply za | apply zb | refine zd ?_ GE564.out | refine zd ?_ GE565.out) | exact HB.out)) hb); clear BK564; clear BK565; clear HB; have BK564 := n0_; have BK565 := n1_; have HB := n2_; clear n0_ n1_ n2_; (try clear hb); (try clear hb2); (try clear hk); (try clear hi))))
   go_meet
   case rel => exact ⟨_, (true), (by first | rfl | (simp; done) | (simp [*]; done)), H', ⟨by first | omega | exact Nat.le_refl _⟩, ⟨by (with_reducible repeat (first | refine ze ?_ _ | refine zg ?_ | refine zf ?_ _)); exact BK564.out⟩, ⟨by (with_reducible repeat (first | refine ze ?_ _ | refine zg ?_ | refine zf ?_ _)); exact BK565.out⟩, ⟨by repeat (first | (with_reducible first | exact HB.out | apply zc | apply za | apply zb | refine zd ?_ GE564.out | refine zd ?_ GE565.out) | exact HB.out)⟩⟩
 case rest =>
  clear HC3
  try clear c1
  try clear c2
  try clear p2
  try clear c7
  try clear c9
  try clear c10
  try clear c17
  try clear c22
  try clear c24
  try clear hcz11_0
  try clear hcz11_1
  try clear hcz13_0
  try clear hcz13_1
  try clear hcz15_0
  try clear hcz15_1
  try clear hcz16_0
  try clear hcz16_1
  try clear hcz18_0
  try clear hcz18_1
  try clear hcz20_0
  try clear hcz20_1
  try clear hcz23_0
  try clear hcz23_1
  try clear hfz11_0
  try clear hfz11_1
  try clear hfz13_0
  try clear hfz13_1
  try clear hfz15_0
  try clear hfz15_1
  try clear hfz16_0
  try clear hfz16_1
  try clear hfz18_0
  try clear hfz18_1
  try clear hfz20_0
  try clear hfz20_1
  try clear hfz23_0
  try clear hfz23_1
  obtain ⟨kq, x25_2, rfl, HA, HJ2, BK564, BK565, HB⟩ := hcut
  cases kq with
  | zero => exact absurd HA.out (by simp [zy.j0])
  | succ kj2 =>
   have H := HA.out
   clear HA
   simp only [zy.j0] at H
   by_cases c25 : x25_2 = true
   ·subst c25
    have H1 : (some (0, 0, false)) = some (r1, r2, r3) := by rw [if_pos rfl] at H; exact H
    clear H
    have H := H1
    clear H1
    simp only [Option.some.injEq, Prod.mk.injEq] at H
    obtain ⟨rfl, rfl, rfl⟩ := H
    go_wp2
    repeat (go_quiet (fail); try go_wp2)
    go_ret3
    exact ⟨by first | rfl | (simp [zt, zu] <;> rfl) | (simp [*, zt, zu] <;> rfl), by repeat (first | (with_reducible first | exact HB.out | apply zc | apply za | apply zb | refine zd ?_ GE564.out | refine zd ?_ GE565.out) | exact HB.out)⟩
   ·replace c25 := Bool.eq_false_iff.mpr c25
    subst c25
    have H1 : (zy.l0 kj2 0 a0_0 l0_1 a1_0 l1_1) = some (r1, r2, r3) := by rw [if_neg (show ¬ (false = true) by decide)] at H; exact H
    clear H
    have H := H1
    clear H1
    have H' := Aside0.mk H
    clear H
    go_wp2
    repeat (go_quiet (fail); try go_wp2)
    go_loopg [7] kj2 (fun kq v7 w' => ∃ (x7_2 : Int), v7 = .int .i64 x7_2 ∧ Aside0 (zy.l0 kq x7_2 a0_0 l0_1 a1_0 l1_1 = some (r1, r2, r3)) ∧ Aside0 (kq ≤ kj2) ∧ Aside0 (w'.heap[gb564]? = some (.cells #[.int .i64 a0_0, (.slice A0_1 l0_1.length c0_1)] 26 (0, 0))) ∧ Aside0 (w'.heap[gb565]? = some (.cells #[.int .i64 a1_0, (.slice A1_1 l1_1.length c1_1)] 26 (0, 0))) ∧ Aside0 (Below w.heap.size w w'))
    case atStart => exact ⟨(0), (by first | rfl | (simp; done) | (simp [*]; done)), H', ⟨Nat.le_refl _⟩, ⟨by (with_reducible repeat (first | refine ze ?_ _ | refine zg ?_ | refine zf ?_ _)); exact BK564.out⟩, ⟨by (with_reducible repeat (first | refine ze ?_ _ | refine zg ?_ | refine zf ?_ _)); exact BK565.out⟩, ⟨by repeat (first | (with_reducible first | exact HB.out | apply zc | apply za | apply zb | refine zd ?_ GE564.out | refine zd ?_ GE565.out) | exact HB.out)⟩⟩
    case round =>
     clear H'
     try clear c1
     try clear c2
     try clear p2
     try clear c7
     try clear c9
     try clear c10
     try clear c17
     try clear c22
     try clear c24
     try clear c25
     try clear hcz11_0
     try clear hcz11_1
     try clear hcz13_0
     try clear hcz13_1
     try clear hcz15_0
     try clear hcz15_1
     try clear hcz16_0
     try clear hcz16_1
     try clear hcz18_0
     try clear hcz18_1
     try clear hcz20_0
     try clear hcz20_1
     try clear hcz23_0
     try clear hcz23_1
     try clear hfz11_0
     try clear hfz11_1
     try clear hfz13_0
     try clear hfz13_1
     try clear hfz15_0
     try clear hfz15_1
     try clear hfz16_0
     try clear hfz16_1
     try clear hfz18_0
     try clear hfz18_1
     try clear hfz20_0
     try clear hfz20_1
     try clear hfz23_0
     try clear hfz23_1
     try clear p2
     obtain ⟨x7_2, rfl, HA, HK2, BK564, BK565, HB⟩ := hrel
     cases gk with
     | zero => exact absurd HA.out (by simp [zy.l0])
     | succ k2 =>
      have H := HA.out
      clear HA
      simp only [zy.l0] at H
      replace H := Option.bind_eq_some_iff.mp H
      obtain ⟨t568, A260, H⟩ := H
      replace H : (if x7_2 ≤ t568 then (zy.l1 k2 x7_2 0 a0_0 l0_1 a1_0 l1_1) else (some (0, 0, false))) = some (r1, r2, r3) := H
      have A26 := Aside0.mk A260
      clear A260
      by_cases c27 : x7_2 ≤ t568
      ·rw [if_pos c27] at H
       have c27b0 : decide (x7_2 ≤ t568) = true := decide_eq_true c27
       clear c27
       have H' := Aside0.mk H
       clear H
       have hnb28 := NB564_565.out
       have hnc28 := NB565_564.out
       have hcz29_0 : wr.cell? ⟨gb564, 0, none⟩ = some (.int .i64 a0_0) := (zh BK564.out 0).trans rfl
       have hcz29_1 : wr.cell? ⟨gb564, 1, none⟩ = some (.slice A0_1 l0_1.length c0_1) := (zh BK564.out 1).trans rfl
       have hfz29_0 := zi BK564.out 0
       have hfz29_1 := zi BK564.out 1
       go_wp2_with (first | (go_at_call 36; (try simp only [zm, zn]); (with_reducible refine (zZ.calls a0_0 t568 _ A26.out).mono ?_); rintro e w' ⟨rfl, ⟨nd, rfl⟩⟩; (try first | exact ⟨rfl, _, World.drewN_drewN _ _ _⟩ | exact ⟨rfl, _, Eq.trans (World.drewN_drewN _ _ _) (congrArg (World.drewN _) (Nat.add_assoc _ _ _))⟩)))
       repeat (go_quiet (first | (go_at_call 36; (try simp only [zm, zn]); (with_reducible refine (zZ.calls a0_0 t568 _ A26.out).mono ?_); rintro e w' ⟨rfl, ⟨nd, rfl⟩⟩; (try first | exact ⟨rfl, _, World.drewN_drewN _ _ _⟩ | exact ⟨rfl, _, Eq.trans (World.drewN_drewN _ _ _) (congrArg (World.drewN _) (Nat.add_assoc _ _ _))⟩))); try go_wp2_with (first | (go_at_call 36; (try simp only [zm, zn]); (with_reducible refine (zZ.calls a0_0 t568 _ A26.out).mono ?_); rintro e w' ⟨rfl, ⟨nd, rfl⟩⟩; (try first | exact ⟨rfl, _, World.drewN_drewN _ _ _⟩ | exact ⟨rfl, _, Eq.trans (World.drewN_drewN _ _ _) (congrArg (World.drewN _) (Nat.add_assoc _ _ _))⟩))))
       go_loopg [8] k2 (fun kq v8 w' => ∃ (x8_3 : Int), v8 = .int .i64 x8_3 ∧ Aside0 (zy.l1 kq x7_2 x8_3 a0_0 l0_1 a1_0 l1_1 = some (r1, r2, r3)) ∧ Aside0 (kq ≤ k2) ∧ Aside0 (w'.heap[gb564]? = some (.cells #[.int .i64 a0_0, (.slice A0_1 l0_1.length c0_1)] 26 (0, 0))) ∧ Aside0 (w'.heap[gb565]? = some (.cells #[.int .i64 a1_0, (.slice A1_1 l1_1.length c1_1)] 26 (0, 0))) ∧ Aside0 (Below w.heap.size w w'))
       case atStart => exact ⟨(0), (by first | rfl | (simp; done) | (simp [*]; done)), H', ⟨Nat.le_refl _⟩, ⟨by (with_reducible repeat (first | refine ze ?_ _ | refine zg ?_ | refine zf ?_ _)); exact BK564.out⟩, ⟨by (with_reducible repeat (first | refine ze ?_ _ | refine zg ?_ | refine zf ?_ _)); exact BK565.out⟩, ⟨by repeat (first | (with_reducible first | exact HB.out | apply zc | apply za | apply zb | refine zd ?_ GE564.out | refine zd ?_ GE565.out) | exact HB.out)⟩⟩
       case round =>
        clear H'
        try clear c1
        try clear c2
        try clear p2
        try clear c7
        try clear c9
        try clear c10
        try clear c17
        try clear c22
        try clear c24
        try clear c25
        try clear c27
        try clear c27b0
        try clear c28
        try clear hcz11_0
        try clear hcz11_1
        try clear hcz13_0
        try clear hcz13_1
        try clear hcz15_0
        try clear hcz15_1
        try clear hcz16_0
        try clear hcz16_1
        try clear hcz18_0
        try clear hcz18_1
        try clear hcz20_0
        try clear hcz20_1
        try clear hcz23_0
        try clear hcz23_1
        try clear hcz29_0
        try clear hcz29_1
        try clear hfz11_0
        try clear hfz11_1
        try clear hfz13_0
        try clear hfz13_1
        try clear hfz15_0
        try clear hfz15_1
        try clear hfz16_0
        try clear hfz16_1
        try clear hfz18_0
        try clear hfz18_1
        try clear hfz20_0
        try clear hfz20_1
        try clear hfz23_0
        try clear hfz23_1
        try clear hfz29_0
        try clear hfz29_1
        try clear p2
        obtain ⟨x8_3, rfl, HA, HK3, BK564, BK565, HB⟩ := hrel
        cases gk with
        | zero => exact absurd HA.out (by simp [zy.l1])
        | succ k3 =>
         have H := HA.out
         clear HA
         simp only [zy.l1] at H
         replace H := Option.bind_eq_some_iff.mp H
         obtain ⟨t569, A300, H⟩ := H
         replace H : (if x8_3 ≤ t569 then (if (Go.bits .and .i64 x7_2 x8_3) = 0 then ((z6.f k3 (Go.bits .or .i64 x7_2 x8_3)).bind fun t570 => (zy.j3 k3 x7_2 x8_3 (t570 != (wrap64 (a0_0 - a1_0))) a0_0 l0_1 a1_0 l1_1)) else (zy.j3 k3 x7_2 x8_3 true a0_0 l0_1 a1_0 l1_1)) else (zy.l0 k3 (wrap64 (x7_2 + 1)) a0_0 l0_1 a1_0 l1_1)) = some (r1, r2, r3) := H
         have A30 := Aside0.mk A300
         clear A300
         by_cases c31 : x8_3 ≤ t569
         ·rw [if_pos c31] at H
          have c31b0 : decide (x8_3 ≤ t569) = true := decide_eq_true c31
          clear c31
          have HC32 := Aside0.mk H
          clear H
          have hnb33 := NB564_565.out
          have hnc33 := NB565_564.out
          have hcz34_0 : wr.cell? ⟨gb564, 0, none⟩ = some (.int .i64 a0_0) := (zh BK564.out 0).trans rfl
          have hcz34_1 : wr.cell? ⟨gb564, 1, none⟩ = some (.slice A0_1 l0_1.length c0_1) := (zh BK564.out 1).trans rfl
          have hfz34_0 := zi BK564.out 0
          have hfz34_1 := zi BK564.out 1
          go_upto_region 9 with (first | (go_at_call 36; (try simp only [zm, zn]); (with_reducible refine (zZ.calls a0_0 t569 _ A30.out).mono ?_); rintro e w' ⟨rfl, ⟨nd, rfl⟩⟩; (try first | exact ⟨rfl, _, World.drewN_drewN _ _ _⟩ | exact ⟨rfl, _, Eq.trans (World.drewN_drewN _ _ _) (congrArg (World.drewN _) (Nat.add_assoc _ _ _))⟩)))
          repeat (go_quiet (first | (go_at_call 36; (try simp only [zm, zn]); (with_reducible refine (zZ.calls a0_0 t569 _ A30.out).mono ?_); rintro e w' ⟨rfl, ⟨nd, rfl⟩⟩; (try first | exact ⟨rfl, _, World.drewN_drewN _ _ _⟩ | exact ⟨rfl, _, Eq.trans (World.drewN_drewN _ _ _) (congrArg (World.drewN _) (Nat.add_assoc _ _ _))⟩))); go_upto_region 9 with (first | (go_at_call 36; (try simp only [zm, zn]); (with_reducible refine (zZ.calls a0_0 t569 _ A30.out).mono ?_); rintro e w' ⟨rfl, ⟨nd, rfl⟩⟩; (try first | exact ⟨rfl, _, World.drewN_drewN _ _ _⟩ | exact ⟨rfl, _, Eq.trans (World.drewN_drewN _ _ _) (congrArg (World.drewN _) (Nat.add_assoc _ _ _))⟩))))
          (try simp only [Act.put, List.setIfInBounds_toArray, List.set_cons_zero, List.set_cons_succ])
          go_cut [55] (fun v55 wc => ∃ (kq : Nat) (x55_31 : Bool), v55 = .bool x55_31 ∧ Aside0 (zy.j3 kq x7_2 x8_3 x55_31 a0_0 l0_1 a1_0 l1_1 = some (r1, r2, r3)) ∧ Aside0 (kq ≤ k3) ∧ Aside0 (wc.heap[gb564]? = some (.cells #[.int .i64 a0_0, (.slice A0_1 l0_1.length c0_1)] 26 (0, 0))) ∧ Aside0 (wc.heap[gb565]? = some (.cells #[.int .i64 a1_0, (.slice A1_1 l1_1.length c1_1)] 26 (0, 0))) ∧ Aside0 (Below w.heap.size w wc))
          case first =>
           have H := HC32.out
           clear HC32
           by_cases c35 : (Go.bits .and .i64 x7_2 x8_3) = 0
           ·rw [if_pos c35] at H
            have c35b0 : ((Go.bits .and .i64 x7_2 x8_3) == 0) = true := beq_iff_eq.mpr c35
            have c35b1 : ((Go.bits .and .i64 x7_2 x8_3) != 0) = false := bne_eq_false_iff_eq.mpr c35
            clear c35
            (first | rw [c35b0] | (simp only [zm, zn]; rw [c35b0]) | skip)
            replace H := Option.bind_eq_some_iff.mp H
            obtain ⟨t570, A360, H⟩ := H
            replace H : (zy.j3 k3 x7_2 x8_3 (t570 != (wrap64 (a0_0 - a1_0))) a0_0 l0_1 a1_0 l1_1) = some (r1, r2, r3) := H
            have A36 := Aside0.mk A360
            clear A360
            have H' := Aside0.mk H
            clear H
            go_wp2_with (first | (go_at_call 34; (try simp only [zm, zn]); (with_reducible refine (z6.calls k3 (Go.bits .or .i64 x7_2 x8_3) t570 _ A36.out).mono ?_); rintro e w' ⟨rfl, ⟨nd, rfl⟩⟩; (try first | exact ⟨rfl, _, World.drewN_drewN _ _ _⟩ | exact ⟨rfl, _, Eq.trans (World.drewN_drewN _ _ _) (congrArg (World.drewN _) (Nat.add_assoc _ _ _))⟩); have hnb37 := NB564_565.out; have hnc37 := NB565_564.out; have hcz38_0 : wr.cell? ⟨gb564, 0, none⟩ = some (.int .i64 a0_0) := (zh BK564.out 0).trans rfl; have hcz38_1 : wr.cell? ⟨gb564, 1, none⟩ = some (.slice A0_1 l0_1.length c0_1) := (zh BK564.out 1).trans rfl; have hfz38_0 := zi BK564.out 0; have hfz38_1 := zi BK564.out 1; have hcz39_0 : wr.cell? ⟨gb565, 0, none⟩ = some (.int .i64 a1_0) := (zh BK565.out 0).trans rfl; have hcz39_1 : wr.cell? ⟨gb565, 1, none⟩ = some (.slice A1_1 l1_1.length c1_1) := (zh BK565.out 1).trans rfl; have hfz39_0 := zi BK565.out 0; have hfz39_1 := zi BK565.out 1))
            repeat (go_quiet (first | (go_at_call 34; (try simp only [zm, zn]); (with_reducible refine (z6.calls k3 (Go.bits .or .i64 x7_2 x8_3) t570 _ A36.out).mono ?_); rintro e w' ⟨rfl, ⟨nd, rfl⟩⟩; (try first | exact ⟨rfl, _, World.drewN_drewN _ _ _⟩ | exact ⟨rfl, _, Eq.trans (World.drewN_drewN _ _ _) (congrArg (World.drewN _) (Nat.add_assoc _ _ _))⟩); have hnb37 := NB564_565.out; have hnc37 := NB565_564.out; have hcz38_0 : wr.cell? ⟨gb564, 0, none⟩ = some (.int .i64 a0_0) := (zh BK564.out 0).trans rfl; have hcz38_1 : wr.cell? ⟨gb564, 1, none⟩ = some (.slice A0_1 l0_1.length c0_1) := (zh BK564.out 1).trans rfl; have hfz38_0 := zi BK564.out 0; have hfz38_1 := zi BK564.out 1; have hcz39_0 : wr.cell? ⟨gb565, 0, none⟩ = some (.int .i64 a1_0) := (zh BK565.out 0).trans rfl; have hcz39_1 : wr.cell? ⟨gb565, 1, none⟩ = some (.slice A1_1 l1_1.length c1_1) := (zh BK565.out 1).trans rfl; have hfz39_0 := zi BK565.out 0; have hfz39_1 := zi BK565.out 1)); try go_wp2_with (first | (go_at_call 34; (try simp only [zm, zn]); (with_reducible refine (z6.calls k3 (Go.bits .or .i64 x7_2 x8_3) t570 _ A36.out).mono ?_); rintro e w' ⟨rfl, ⟨nd, rfl⟩⟩; (try first | exact ⟨rfl, _, World.drewN_drewN _ _ _⟩ | exact ⟨rfl, _, Eq.trans (World.drewN_drewN _ _ _) (congrArg (World.drewN _) (Nat.add_assoc _ _ _))⟩); have hnb37 := NB564_565.out; have hnc37 := NB565_564.out; have hcz38_0 : wr.cell? ⟨gb564, 0, none⟩ = some (.int .i64 a0_0) := (zh BK564.out 0).trans rfl; have hcz38_1 : wr.cell? ⟨gb564, 1, none⟩ = some (.slice A0_1 l0_1.length c0_1) := (zh BK564.out 1).trans rfl; have hfz38_0 := zi BK564.out 0; have hfz38_1 := zi BK564.out 1; have hcz39_0 : wr.cell? ⟨gb565, 0, none⟩ = some (.int .i64 a1_0) := (zh BK565.out 0).trans rfl; have hcz39_1 : wr.cell? ⟨gb565, 1, none⟩ = some (.slice A1_1 l1_1.length c1_1) := (zh BK565.out 1).trans rfl; have hfz39_0 := zi BK565.out 0; have hfz39_1 := zi BK565.out 1)))
            go_meet
            case rel => exact ⟨_, ((t570 != (wrap64 (a0_0 - a1_0)))), (by first | rfl | (simp only [zm, zn]; done) | (simp; done) | (simp [*]; done)), H', ⟨by have := HJ2.out; have := HK2.out; have := HK3.out; first | omega | exact Nat.le_refl _⟩, ⟨by (with_reducible repeat (first | refine ze ?_ _ | refine zg ?_ | refine zf ?_ _)); exact BK564.out⟩, ⟨by (with_reducible repeat (first | refine ze ?_ _ | refine zg ?_ | refine zf ?_ _)); exact BK565.out⟩, ⟨by repeat (first | (with_reducible first | exact HB.out | apply zc | apply za | apply zb | refine zd ?_ GE564.out | refine zd ?_ GE565.out) | exact HB.out)⟩⟩
           ·rw [if_neg c35] at H
            have c35b0 : ((Go.bits .and .i64 x7_2 x8_3) == 0) = false := beq_eq_false_iff_ne.mpr c35
            have c35b1 : ((Go.bits .and .i64 x7_2 x8_3) != 0) = true := bne_iff_ne.mpr c35
            (first | rw [c35b0] | (simp only [zm, zn]; rw [c35b0]) | skip)
            have H' := Aside0.mk H
            clear H
            go_wp2
            repeat (go_quiet (fail); try go_wp2)
            go_meet
            case rel => exact ⟨_, (true), (by first | rfl | (simp; done) | (simp [*]; done)), H', ⟨by have := HJ2.out; have := HK2.out; have := HK3.out; first | omega | exact Nat.le_refl _⟩, ⟨by (with_reducible repeat (first | refine ze ?_ _ | refine zg ?_ | refine zf ?_ _)); exact BK564.out⟩, ⟨by (with_reducible repeat (first | refine ze ?_ _ | refine zg ?_ | refine zf ?_ _)); exact BK565.out⟩, ⟨by repeat (first | (with_reducible first | exact HB.out | apply zc | apply za | apply zb | refine zd ?_ GE564.out | refine zd ?_ GE565.out) | exact HB.out)⟩⟩
          case rest =>
           clear HC32
           try clear c1
           try clear c2
           try clear p2
           try clear c3
           try clear p6
           try clear c7
           try clear c9
           try clear c10
           try clear c17
           try clear c22
           try clear c24
           try clear c25
           try clear c27
           try clear c27b0
           try clear c28
           try clear c31
           try clear c31b0
           try clear c33
           try clear c35
           try clear c35b0
           try clear c35b1
           try clear c37
           try clear hcz11_0
           try clear hcz11_1
           try clear hcz13_0
           try clear hcz13_1
           try clear hcz15_0
           try clear hcz15_1
           try clear hcz16_0
           try clear hcz16_1
           try clear hcz18_0
           try clear hcz18_1
           try clear hcz20_0
           try clear hcz20_1
           try clear hcz23_0
           try clear hcz23_1
           try clear hcz29_0
           try clear hcz29_1
           try clear hcz34_0
           try clear hcz34_1
           try clear hcz38_0
           try clear hcz38_1
           try clear hcz39_0
           try clear hcz39_1
           try clear hfz11_0
           try clear hfz11_1
           try clear hfz13_0
           try clear hfz13_1
           try clear hfz15_0
           try clear hfz15_1
           try clear hfz16_0
           try clear hfz16_1
           try clear hfz18_0
           try clear hfz18_1
           try clear hfz20_0
           try clear hfz20_1
           try clear hfz23_0
           try clear hfz23_1
           try clear hfz29_0
           try clear hfz29_1
           try clear hfz34_0
           try clear hfz34_1
           try clear hfz38_0
           try clear hfz38_1
           try clear hfz39_0
           try clear hfz39_1
           try clear p2
           obtain ⟨kq, x55_31, rfl, HA, HJ31, BK564, BK565, HB⟩ := hcut
           cases kq with
           | zero => exact absurd HA.out (by simp [zy.j3])
           | succ kj31 =>
            have H := HA.out
            clear HA
            simp only [zy.j3] at H
            by_cases c40 : x55_31 = true
            ·subst c40
             have H1 : (zy.l1 kj31 x7_2 (wrap64 (x8_3 + 1)) a0_0 l0_1 a1_0 l1_1) = some (r1, r2, r3) := by rw [if_pos rfl] at H; exact H
             clear H
             have H := H1
             clear H1
             have H' := Aside0.mk H
             clear H
             go_wp2
             repeat (go_quiet (fail); try go_wp2)
             go_roundg kj31
             case measure => have := HJ2.out; have := HK2.out; have := HK3.out; have := HJ31.out; omega
             case rel => exact ⟨(wrap64 (x8_3 + 1)), (by first | rfl | (simp; done) | (simp [*]; done)), H', ⟨by have := HJ2.out; have := HK2.out; have := HK3.out; have := HJ31.out; omega⟩, ⟨by (with_reducible repeat (first | refine ze ?_ _ | refine zg ?_ | refine zf ?_ _)); exact BK564.out⟩, ⟨by (with_reducible repeat (first | refine ze ?_ _ | refine zg ?_ | refine zf ?_ _)); exact BK565.out⟩, ⟨by repeat (first | (with_reducible first | exact HB.out | apply zc | apply za | apply zb | refine zd ?_ GE564.out | refine zd ?_ GE565.out) | exact HB.out)⟩⟩
            ·replace c40 := Bool.eq_false_iff.mpr c40
             subst c40
             have H1 : ((zU.f kj31 a0_0 l0_1 x7_2 x8_3).bind fun bt571 => ((zK.f kj31 bt571.1 bt571.2.1 a1_0 l1_1).bind fun t577 => (if t577 = true then (some (x7_2, x8_3, true)) else (zy.l1 kj31 x7_2 (wrap64 (x8_3 + 1)) a0_0 l0_1 a1_0 l1_1)))) = some (r1, r2, r3) := by rw [if_neg (show ¬ (false = true) by decide)] at H; exact H
             clear H
             have H := H1
             clear H1
             replace H := Option.bind_eq_some_iff.mp H
             obtain ⟨⟨t571, t572, t575⟩, A410, H⟩ := H
             replace H : ((zK.f kj31 t571 t572 a1_0 l1_1).bind fun t577 => (if t577 = true then (some (x7_2, x8_3, true)) else (zy.l1 kj31 x7_2 (wrap64 (x8_3 + 1)) a0_0 l0_1 a1_0 l1_1))) = some (r1, r2, r3) := H
             have A41 := Aside0.mk A410
             clear A410
             replace H := Option.bind_eq_some_iff.mp H
             obtain ⟨t577, A420, H⟩ := H
             replace H : (if t577 = true then (some (x7_2, x8_3, true)) else (zy.l1 kj31 x7_2 (wrap64 (x8_3 + 1)) a0_0 l0_1 a1_0 l1_1)) = some (r1, r2, r3) := H
             have A42 := Aside0.mk A420
             clear A420
             by_cases c43 : t577 = true
             ·subst c43
              have H1 : (some (x7_2, x8_3, true)) = some (r1, r2, r3) := by rw [if_pos rfl] at H; exact H
              clear H
              have H := H1
              clear H1
              simp only [Option.some.injEq, Prod.mk.injEq] at H
              obtain ⟨rfl, rfl, rfl⟩ := H
              have hnb44 := NB564_565.out
              have hnc44 := NB565_564.out
              have hcz45_0 : wc.cell? ⟨gb564, 0, none⟩ = some (.int .i64 a0_0) := (zh BK564.out 0).trans rfl
              have hcz45_1 : wc.cell? ⟨gb564, 1, none⟩ = some (.slice A0_1 l0_1.length c0_1) := (zh BK564.out 1).trans rfl
              have hfz45_0 := zi BK564.out 0
              have hfz45_1 := zi BK564.out 1
              go_wp2_with (first | (go_at_call 22; (try simp only [zm, zn]); (with_reducible refine (zU.calls kj31 a0_0 _ _ l0_1 x7_2 x8_3 t571 t572 t575 _ ?side1 ?side2 A41.out).mono ?_); (case side1 => repeat (first | exact (Kd.zG HR0_1.out HB.out) | (with_reducible refine Kd.zI ?_ _) | (with_reducible refine Kd.zH ?_ _) | (with_reducible refine Kd.zP ?_))); (case side2 => exact HC0_1.out); rintro e w46 ⟨v573, rfl, ho0, hb⟩; have n0_ := Aside0.mk (Kd.qB ho0 (zk (by repeat (first | (with_reducible first | exact HB.out | apply zc | apply za | apply zb | refine zd ?_ GE564.out | refine zd ?_ GE565.out) | exact HB.out)))); have n1_ := Aside0.mk (zj (g := gb564) (o := .cells #[.int .i64 a0_0, .slice A0_1 l0_1.length c0_1] 26 (0, 0)) (by (with_reducible repeat (first | refine ze ?_ _ | refine zg ?_ | refine zf ?_ _)); exact BK564.out) hb); have n2_ := Aside0.mk (zj (g := gb565) (o := .cells #[.int .i64 a1_0, .slice A1_1 l1_1.length c1_1] 26 (0, 0)) (by (with_reducible repeat (first | refine ze ?_ _ | refine zg ?_ | refine zf ?_ _)); exact BK565.out) hb); have n3_ := Aside0.mk (zl (by repeat (first | (with_reducible first | exact HB.out | apply zc | apply za | apply zb | refine zd ?_ GE564.out | refine zd ?_ GE565.out) | exact HB.out)) hb); clear BK564; clear BK565; clear HB; have HO574 := n0_; have BK564 := n1_; have BK565 := n2_; have HB := n3_; clear n0_ n1_ n2_ n3_; (try clear hb); (try clear hb2); (try clear hk); (try clear hi); (try clear ho0)) | ((with_reducible refine zD (N := 9) rfl ?_); refine zA ?hg (N := 9) ?hd (cs := #[.int .i64 0, .slice none 0 0]) (t := 26) ?hr ?_; (case hd => rfl); (case hg => rfl); (case hr => first | (go_simp; done) | (go_simp; rfl)); intro gb576 hg w47 hbox hb; have n0_ := Aside0.mk (Kd.qq (by (with_reducible repeat (first | apply Kd.zw | apply Kd.zx | apply Kd.zz)); exact HO574.out) hb); have n1_ := Aside0.mk (zj (g := gb564) (o := .cells #[.int .i64 a0_0, .slice A0_1 l0_1.length c0_1] 26 (0, 0)) (by (with_reducible repeat (first | refine ze ?_ _ | refine zg ?_ | refine zf ?_ _)); exact BK564.out) hb); have n2_ := Aside0.mk (zj (g := gb565) (o := .cells #[.int .i64 a1_0, .slice A1_1 l1_1.length c1_1] 26 (0, 0)) (by (with_reducible repeat (first | refine ze ?_ _ | refine zg ?_ | refine zf ?_ _)); exact BK565.out) hb); have n3_ := Aside0.mk (zl (by repeat (first | (with_reducible first | exact HB.out | apply zc | apply za | apply zb | refine zd ?_ GE564.out | refine zd ?_ GE565.out) | exact HB.out)) hb); have n4_ := Aside0.mk (hbox); have n5_ := Aside0.mk ((by rw [hg]; exact (zk (by repeat (first | (with_reducible first | exact HB.out | apply zc | apply za | apply zb | refine zd ?_ GE564.out | refine zd ?_ GE565.out) | exact HB.out))) : w.heap.size ≤ gb576)); have n6_ := Aside0.mk ((by rw [hg]; exact (zk (by repeat (first | (with_reducible first | exact HB.out | apply zc | apply za | apply zb | refine zd ?_ GE564.out | refine zd ?_ GE565.out) | exact HB.out))) : w.heap.size ≤ gb576)); have n7_ := Aside0.mk ((by rw [hg]; exact Nat.ne_of_lt (zM (g := gb564) (o := .cells #[.int .i64 a0_0, .slice A0_1 l0_1.length c0_1] 26 (0, 0)) (by (with_reducible repeat (first | refine ze ?_ _ | refine zg ?_ | refine zf ?_ _)); exact BK564.out)) : gb564 ≠ gb576)); have n8_ := Aside0.mk ((by rw [hg]; exact Nat.ne_of_gt (zM (g := gb564) (o := .cells #[.int .i64 a0_0, .slice A0_1 l0_1.length c0_1] 26 (0, 0)) (by (with_reducible repeat (first | refine ze ?_ _ | refine zg ?_ | refine zf ?_ _)); exact BK564.out)) : gb576 ≠ gb564)); have n9_ := Aside0.mk ((by rw [hg]; exact Nat.ne_of_lt (zM (g := gb565) (o := .cells #[.int .i64 a1_0, .slice A1_1 l1_1.length c1_1] 26 (0, 0)) (by (with_reducible repeat (first | refine ze ?_ _ | refine zg ?_ | refine zf ?_ _)); exact BK565.out)) : gb565 ≠ gb576)); have n10_ := Aside0.mk ((by rw [hg]; exact Nat.ne_of_gt (zM (g := gb565) (o := .cells #[.int .i64 a1_0, .slice A1_1 l1_1.length c1_1] 26 (0, 0)) (by (with_reducible repeat (first | refine ze ?_ _ | refine zg ?_ | refine zf ?_ _)); exact BK565.out)) : gb576 ≠ gb565)); clear HO574; clear BK564; clear BK565; clear HB; have HO574 := n0_; have BK564 := n1_; have BK565 := n2_; have HB := n3_; have BK576 := n4_; have GW576 := n5_; have GE576 := n6_; have NB564_576 := n7_; have NB576_564 := n8_; have NB565_576 := n9_; have NB576_565 := n10_; clear n0_ n1_ n2_ n3_ n4_ n5_ n6_ n7_ n8_ n9_ n10_; clear hb hbox hg; have hnb48 := NB576_564.out; have hnc48 := NB564_576.out; have hnb49 := NB576_565.out; have hnc49 := NB565_576.out; have hcz50_0 : w47.cell? ⟨gb576, 0, none⟩ = some (.int .i64 0) := (zh BK576.out 0).trans rfl; have hcz50_1 : w47.cell? ⟨gb576, 1, none⟩ = some (.slice none 0 0) := (zh BK576.out 1).trans rfl; have hfz50_0 := zi BK576.out 0; have hfz50_1 := zi BK576.out 1; obtain ⟨Ao51, co51, eo51⟩ := Kd.qo HO574.out; subst eo51; have hcz52_0 : w47.cell? ⟨gb565, 0, none⟩ = some (.int .i64 a1_0) := (zh BK565.out 0).trans rfl; have hcz52_1 : w47.cell? ⟨gb565, 1, none⟩ = some (.slice A1_1 l1_1.length c1_1) := (zh BK565.out 1).trans rfl; have hfz52_0 := zi BK565.out 0; have hfz52_1 := zi BK565.out 1) | (go_at_call 47; (try simp only [zm, zn]); (with_reducible refine (zK.calls kj31 t571 _ _ t572 a1_0 _ _ l1_1 true _ ?side1 ?side2 ?side3 ?side4 A42.out).mono ?_); (case side1 => refine (Kd.zS (e := 3) (base := w.heap.size) (ok := fun k_ => True) (n := t572.length) (c := co51) ?_).2.2; exact (by (with_reducible repeat (first | apply Kd.zw | apply Kd.zx | apply Kd.zz)); exact (Kd.qn (Kd.qx (p := ⟨gb576, 1, none⟩) (Kd.qx (p := ⟨gb576, 0, none⟩) (Kd.qG HO574.out BK576.out (by decide)) (fun _ hk => hk.2) (.int .i64 t571)) (fun _ hk => hk.2) (.slice Ao51 t572.length co51)) (fun _ h_ => h_.1)))); (case side2 => exact (Kd.zS HO574.out).2.1); (case side3 => exact Kd.zG HR1_1.out (by repeat (first | (with_reducible first | exact HB.out | apply zc | apply za | apply zb | refine zd ?_ GE564.out | refine zd ?_ GE565.out | refine zd ?_ GE576.out) | exact HB.out))); (case side4 => exact HC1_1.out); rintro e w53 ⟨rfl, hb⟩; have n0_ := Aside0.mk (Kd.qq (by (with_reducible repeat (first | apply Kd.zw | apply Kd.zx | apply Kd.zz)); exact (Kd.qn (Kd.qx (p := ⟨gb576, 1, none⟩) (Kd.qx (p := ⟨gb576, 0, none⟩) (Kd.qG HO574.out BK576.out (by decide)) (fun _ hk => hk.2) (.int .i64 t571)) (fun _ hk => hk.2) (.slice Ao51 t572.length co51)) (fun _ h_ => h_.1))) hb); have n1_ := Aside0.mk (zj (g := gb564) (o := .cells #[.int .i64 a0_0, .slice A0_1 l0_1.length c0_1] 26 (0, 0)) (by (with_reducible repeat (first | refine ze ?_ _ | refine zg ?_ | refine zf ?_ _)); refine qw ?_ NB564_576.out _; (with_reducible repeat (first | refine ze ?_ _ | refine zg ?_ | refine zf ?_ _)); refine qw ?_ NB564_576.out _; (with_reducible repeat (first | refine ze ?_ _ | refine zg ?_ | refine zf ?_ _)); exact BK564.out) hb); have n2_ := Aside0.mk (zj (g := gb565) (o := .cells #[.int .i64 a1_0, .slice A1_1 l1_1.length c1_1] 26 (0, 0)) (by (with_reducible repeat (first | refine ze ?_ _ | refine zg ?_ | refine zf ?_ _)); refine qw ?_ NB565_576.out _; (with_reducible repeat (first | refine ze ?_ _ | refine zg ?_ | refine zf ?_ _)); refine qw ?_ NB565_576.out _; (with_reducible repeat (first | refine ze ?_ _ | refine zg ?_ | refine zf ?_ _)); exact BK565.out) hb); have n3_ := Aside0.mk (zj (g := gb576) (o := .cells #[.int .i64 t571, .slice Ao51 t572.length co51] 26 (0, 0)) (by (with_reducible repeat (first | refine ze ?_ _ | refine zg ?_ | refine zf ?_ _)); refine zV (cs := #[.int .i64 t571, .slice none 0 0]) ?_ 1 _ rfl; (with_reducible repeat (first | refine ze ?_ _ | refine zg ?_ | refine zf ?_ _)); refine zV (cs := #[.int .i64 0, .slice none 0 0]) ?_ 0 _ rfl; (with_reducible repeat (first | refine ze ?_ _ | refine zg ?_ | refine zf ?_ _)); exact BK576.out) hb); have n4_ := Aside0.mk (zl (by repeat (first | (with_reducible first | exact HB.out | apply zc | apply za | apply zb | refine zd ?_ GE564.out | refine zd ?_ GE565.out | refine zd ?_ GE576.out) | exact HB.out)) hb); clear HO574; clear BK564; clear BK565; clear BK576; clear HB; have HO574 := n0_; have BK564 := n1_; have BK565 := n2_; have BK576 := n3_; have HB := n4_; clear n0_ n1_ n2_ n3_ n4_; (try clear hb); (try clear hb2); (try clear hk); (try clear hi)))
              repeat (go_quiet (first | (go_at_call 22; (try simp only [zm, zn]); (with_reducible refine (zU.calls kj31 a0_0 _ _ l0_1 x7_2 x8_3 t571 t572 t575 _ ?side1 ?side2 A41.out).mono ?_); (case side1 => repeat (first | exact (Kd.zG HR0_1.out HB.out) | (with_reducible refine Kd.zI ?_ _) | (with_reducible refine Kd.zH ?_ _) | (with_reducible refine Kd.zP ?_))); (case side2 => exact HC0_1.out); rintro e w46 ⟨v573, rfl, ho0, hb⟩; have n0_ := Aside0.mk (Kd.qB ho0 (zk (by repeat (first | (with_reducible first | exact HB.out | apply zc | apply za | apply zb | refine zd ?_ GE564.out | refine zd ?_ GE565.out) | exact HB.out)))); have n1_ := Aside0.mk (zj (g := gb564) (o := .cells #[.int .i64 a0_0, .slice A0_1 l0_1.length c0_1] 26 (0, 0)) (by (with_reducible repeat (first | refine ze ?_ _ | refine zg ?_ | refine zf ?_ _)); exact BK564.out) hb); have n2_ := Aside0.mk (zj (g := gb565) (o := .cells #[.int .i64 a1_0, .slice A1_1 l1_1.length c1_1] 26 (0, 0)) (by (with_reducible repeat (first | refine ze ?_ _ | refine zg ?_ | refine zf ?_ _)); exact BK565.out) hb); have n3_ := Aside0.mk (zl (by repeat (first | (with_reducible first | exact HB.out | apply zc | apply za | apply zb | refine zd ?_ GE564.out | refine zd ?_ GE565.out) | exact HB.out)) hb); clear BK564; clear BK565; clear HB; have HO574 := n0_; have BK564 := n1_; have BK565 := n2_; have HB := n3_; clear n0_ n1_ n2_ n3_; (try clear hb); (try clear hb2); (try clear hk); (try clear hi); (try clear ho0)) | ((with_reducible refine zD (N := 9) rfl ?_); refine zA ?hg (N := 9) ?hd (cs := #[.int .i64 0, .slice none 0 0]) (t := 26) ?hr ?_; (case hd => rfl); (case hg => rfl); (case hr => first | (go_simp; done) | (go_simp; rfl)); intro gb576 hg w47 hbox hb; have n0_ := Aside0.mk (Kd.qq (by (with_reducible repeat (first | apply Kd.zw | apply Kd.zx | apply Kd.zz)); exact HO574.out) hb); have n1_ := Aside0.mk (zj (g := gb564) (o := .cells #[.int .i64 a0_0, .slice A0_1 l0_1.length c0_1] 26 (0, 0)) (by (with_reducible repeat (first | refine ze ?_ _ | refine zg ?_ | refine zf ?_ _)); exact BK564.out) hb); have n2_ := Aside0.mk (zj (g := gb565) (o := .cells #[.int .i64 a1_0, .slice A1_1 l1_1.length c1_1] 26 (0, 0)) (by (with_reducible repeat (first | refine ze ?_ _ | refine zg ?_ | refine zf ?_ _)); exact BK565.out) hb); have n3_ := Aside0.mk (zl (by repeat (first | (with_reducible first | exact HB.out | apply zc | apply za | apply zb | refine zd ?_ GE564.out | refine zd ?_ GE565.out) | exact HB.out)) hb); have n4_ := Aside0.mk (hbox); have n5_ := Aside0.mk ((by rw [hg]; exact (zk (by repeat (first | (with_reducible first | exact HB.out | apply zc | apply za | apply zb | refine zd ?_ GE564.out | refine zd ?_ GE565.out) | exact HB.out))) : w.heap.size ≤ gb576)); have n6_ := Aside0.mk ((by rw [hg]; exact (zk (by repeat (first | (with_reducible first | exact HB.out | apply zc | apply za | apply zb | refine zd ?_ GE564.out | refine zd ?_ GE565.out) | exact HB.out))) : w.heap.size ≤ gb576)); have n7_ := Aside0.mk ((by rw [hg]; exact Nat.ne_of_lt (zM (g := gb564) (o := .cells #[.int .i64 a0_0, .slice A0_1 l0_1.length c0_1] 26 (0, 0)) (by (with_reducible repeat (first | refine ze ?_ _ | refine zg ?_ | refine zf ?_ _)); exact BK564.out)) : gb564 ≠ gb576)); have n8_ := Aside0.mk ((by rw [hg]; exact Nat.ne_of_gt (zM (g := gb564) (o := .cells #[.int .i64 a0_0, .slice A0_1 l0_1.length c0_1] 26 (0, 0)) (by (with_reducible repeat (first | refine ze ?_ _ | refine zg ?_ | refine zf ?_ _)); exact BK564.out)) : gb576 ≠ gb564)); have n9_ := Aside0.mk ((by rw [hg]; exact Nat.ne_of_lt (zM (g := gb565) (o := .cells #[.int .i64 a1_0, .slice A1_1 l1_1.length c1_1] 26 (0, 0)) (by (with_reducible repeat (first | refine ze ?_ _ | refine zg ?_ | refine zf ?_ _)); exact BK565.out)) : gb565 ≠ gb576)); have n10_ := Aside0.mk ((by rw [hg]; exact Nat.ne_of_gt (zM (g := gb565) (o := .cells #[.int .i64 a1_0, .slice A1_1 l1_1.length c1_1] 26 (0, 0)) (by (with_reducible repeat (first | refine ze ?_ _ | refine zg ?_ | refine zf ?_ _)); exact BK565.out)) : gb576 ≠ gb565)); clear HO574; clear BK564; clear BK565; clear HB; have HO574 := n0_; have BK564 := n1_; have BK565 := n2_; have HB := n3_; have BK576 := n4_; have GW576 := n5_; have GE576 := n6_; have NB564_576 := n7_; have NB576_564 := n8_; have NB565_576 := n9_; have NB576_565 := n10_; clear n0_ n1_ n2_ n3_ n4_ n5_ n6_ n7_ n8_ n9_ n10_; clear hb hbox hg; have hnb48 := NB576_564.out; have hnc48 := NB564_576.out; have hnb49 := NB576_565.out; have hnc49 := NB565_576.out; have hcz50_0 : w47.cell? ⟨gb576, 0, none⟩ = some (.int .i64 0) := (zh BK576.out 0).trans rfl; have hcz50_1 : w47.cell? ⟨gb576, 1, none⟩ = some (.slice none 0 0) := (zh BK576.out 1).trans rfl; have hfz50_0 := zi BK576.out 0; have hfz50_1 := zi BK576.out 1; obtain ⟨Ao51, co51, eo51⟩ := Kd.qo HO574.out; subst eo51; have hcz52_0 : w47.cell? ⟨gb565, 0, none⟩ = some (.int .i64 a1_0) := (zh BK565.out 0).trans rfl; have hcz52_1 : w47.cell? ⟨gb565, 1, none⟩ = some (.slice A1_1 l1_1.length c1_1) := (zh BK565.out 1).trans rfl; have hfz52_0 := zi BK565.out 0; have hfz52_1 := zi BK565.out 1) | (go_at_call 47; (try simp only [zm, zn]); (with_reducible refine (zK.calls kj31 t571 _ _ t572 a1_0 _ _ l1_1 true _ ?side1 ?side2 ?side3 ?side4 A42.out).mono ?_); (case side1 => refine (Kd.zS (e := 3) (base := w.heap.size) (ok := fun k_ => True) (n := t572.length) (c := co51) ?_).2.2; exact (by (with_reducible repeat (first | apply Kd.zw | apply Kd.zx | apply Kd.zz)); exact (Kd.qn (Kd.qx (p := ⟨gb576, 1, none⟩) (Kd.qx (p := ⟨gb576, 0, none⟩) (Kd.qG HO574.out BK576.out (by decide)) (fun _ hk => hk.2) (.int .i64 t571)) (fun _ hk => hk.2) (.slice Ao51 t572.length co51)) (fun _ h_ => h_.1)))); (case side2 => exact (Kd.zS HO574.out).2.1); (case side3 => exact Kd.zG HR1_1.out (by repeat (first | (with_reducible first | exact HB.out | apply zc | apply za | apply zb | refine zd ?_ GE564.out | refine zd ?_ GE565.out | refine zd ?_ GE576.out) | exact HB.out))); (case side4 => exact HC1_1.out); rintro e w53 ⟨rfl, hb⟩; have n0_ := Aside0.mk (Kd.qq (by (with_reducible repeat (first | apply Kd.zw | apply Kd.zx | apply Kd.zz)); exact (Kd.qn (Kd.qx (p := ⟨gb576, 1, none⟩) (Kd.qx (p := ⟨gb576, 0, none⟩) (Kd.qG HO574.out BK576.out (by decide)) (fun _ hk => hk.2) (.int .i64 t571)) (fun _ hk => hk.2) (.slice Ao51 t572.length co51)) (fun _ h_ => h_.1))) hb); have n1_ := Aside0.mk (zj (g := gb564) (o := .cells #[.int .i64 a0_0, .slice A0_1 l0_1.length c0_1] 26 (0, 0)) (by (with_reducible repeat (first | refine ze ?_ _ | refine zg ?_ | refine zf ?_ _)); refine qw ?_ NB564_576.out _; (with_reducible repeat (first | refine ze ?_ _ | refine zg ?_ | refine zf ?_ _)); refine qw ?_ NB564_576.out _; (with_reducible repeat (first | refine ze ?_ _ | refine zg ?_ | refine zf ?_ _)); exact BK564.out) hb); have n2_ := Aside0.mk (zj (g := gb565) (o := .cells #[.int .i64 a1_0, .slice A1_1 l1_1.length c1_1] 26 (0, 0)) (by (with_reducible repeat (first | refine ze ?_ _ | refine zg ?_ | refine zf ?_ _)); refine qw ?_ NB565_576.out _; (with_reducible repeat (first | refine ze ?_ _ | refine zg ?_ | refine zf ?_ _)); refine qw ?_ NB565_576.out _; (with_reducible repeat (first | refine ze ?_ _ | refine zg ?_ | refine zf ?_ _)); exact BK565.out) hb); have n3_ := Aside0.mk (zj (g := gb576) (o := .cells #[.int .i64 t571, .slice Ao51 t572.length co51] 26 (0, 0)) (by (with_reducible repeat (first | refine ze ?_ _ | refine zg ?_ | refine zf ?_ _)); refine zV (cs := #[.int .i64 t571, .slice none 0 0]) ?_ 1 _ rfl; (with_reducible repeat (first | refine ze ?_ _ | refine zg ?_ | refine zf ?_ _)); refine zV (cs := #[.int .i64 0, .slice none 0 0]) ?_ 0 _ rfl; (with_reducible repeat (first | refine ze ?_ _ | refine zg ?_ | refine zf ?_ _)); exact BK576.out) hb); have n4_ := Aside0.mk (zl (by repeat (first | (with_reducible first | exact HB.out | apply zc | apply za | apply zb | refine zd ?_ GE564.out | refine zd ?_ GE565.out | refine zd ?_ GE576.out) | exact HB.out)) hb); clear HO574; clear BK564; clear BK565; clear BK576; clear HB; have HO574 := n0_; have BK564 := n1_; have BK565 := n2_; have BK576 := n3_; have HB := n4_; clear n0_ n1_ n2_ n3_ n4_; (try clear hb); (try clear hb2); (try clear hk); (try clear hi))); try go_wp2_with (first | (go_at_call 22; (try simp only [zm, zn]); (with_reducible refine (zU.calls kj31 a0_0 _ _ l0_1 x7_2 x8_3 t571 t572 t575 _ ?side1 ?side2 A41.out).mono ?_); (case side1 => repeat (first | exact (Kd.zG HR0_1.out HB.out) | (with_reducible refine Kd.zI ?_ _) | (with_reducible refine Kd.zH ?_ _) | (with_reducible refine Kd.zP ?_))); (case side2 => exact HC0_1.out); rintro e w46 ⟨v573, rfl, ho0, hb⟩; have n0_ := Aside0.mk (Kd.qB ho0 (zk (by repeat (first | (with_reducible first | exact HB.out | apply zc | apply za | apply zb | refine zd ?_ GE564.out | refine zd ?_ GE565.out) | exact HB.out)))); have n1_ := Aside0.mk (zj (g := gb564) (o := .cells #[.int .i64 a0_0, .slice A0_1 l0_1.length c0_1] 26 (0, 0)) (by (with_reducible repeat (first | refine ze ?_ _ | refine zg ?_ | refine zf ?_ _)); exact BK564.out) hb); have n2_ := Aside0.mk (zj (g := gb565) (o := .cells #[.int .i64 a1_0, .slice A1_1 l1_1.length c1_1] 26 (0, 0)) (by (with_reducible repeat (first | refine ze ?_ _ | refine zg ?_ | refine zf ?_ _)); exact BK565.out) hb); have n3_ := Aside0.mk (zl (by repeat (first | (with_reducible first | exact HB.out | apply zc | apply za | apply zb | refine zd ?_ GE564.out | refine zd ?_ GE565.out) | exact HB.out)) hb); clear BK564; clear BK565; clear HB; have HO574 := n0_; have BK564 := n1_; have BK565 := n2_; have HB := n3_; clear n0_ n1_ n2_ n3_; (try clear hb); (try clear hb2); (try clear hk); (try clear hi); (try clear ho0)) | ((with_reducible refine zD (N := 9) rfl ?_); refine zA ?hg (N := 9) ?hd (cs := #[.int .i64 0, .slice none 0 0]) (t := 26) ?hr ?_; (case hd => rfl); (case hg => rfl); (case hr => first | (go_simp; done) | (go_simp; rfl)); intro gb576 hg w47 hbox hb; have n0_ := Aside0.mk (Kd.qq (by (with_reducible repeat (first | apply Kd.zw | apply Kd.zx | apply Kd.zz)); exact HO574.out) hb); have n1_ := Aside0.mk (zj (g := gb564) (o := .cells #[.int .i64 a0_0, .slice A0_1 l0_1.length c0_1] 26 (0, 0)) (by (with_reducible repeat (first | refine ze ?_ _ | refine zg ?_ | refine zf ?_ _)); exact BK564.out) hb); have n2_ := Aside0.mk (zj (g := gb565) (o := .cells #[.int .i64 a1_0, .slice A1_1 l1_1.length c1_1] 26 (0, 0)) (by (with_reducible repeat (first | refine ze ?_ _ | refine zg ?_ | refine zf ?_ _)); exact BK565.out) hb); have n3_ := Aside0.mk (zl (by repeat (first | (with_reducible first | exact HB.out | apply zc | apply za | apply zb | refine zd ?_ GE564.out | refine zd ?_ GE565.out) | exact HB.out)) hb); have n4_ := Aside0.mk (hbox); have n5_ := Aside0.mk ((by rw [hg]; exact (zk (by repeat (first | (with_reducible first | exact HB.out | apply zc | apply za | apply zb | refine zd ?_ GE564.out | refine zd ?_ GE565.out) | exact HB.out))) : w.heap.size ≤ gb576)); have n6_ := Aside0.mk ((by rw [hg]; exact (zk (by repeat (first | (with_reducible first | exact HB.out | apply zc | apply za | apply zb | refine zd ?_ GE564.out | refine zd ?_ GE565.out) | exact HB.out))) : w.heap.size ≤ gb576)); have n7_ := Aside0.mk ((by rw [hg]; exact Nat.ne_of_lt (zM (g := gb564) (o := .cells #[.int .i64 a0_0, .slice A0_1 l0_1.length c0_1] 26 (0, 0)) (by (with_reducible repeat (first | refine ze ?_ _ | refine zg ?_ | refine zf ?_ _)); exact BK564.out)) : gb564 ≠ gb576)); have n8_ := Aside0.mk ((by rw [hg]; exact Nat.ne_of_gt (zM (g := gb564) (o := .cells #[.int .i64 a0_0, .slice A0_1 l0_1.length c0_1] 26 (0, 0)) (by (with_reducible repeat (first | refine ze ?_ _ | refine zg ?_ | refine zf ?_ _)); exact BK564.out)) : gb576 ≠ gb564)); have n9_ := Aside0.mk ((by rw [hg]; exact Nat.ne_of_lt (zM (g := gb565) (o := .cells #[.int .i64 a1_0, .slice A1_1 l1_1.length c1_1] 26 (0, 0)) (by (with_reducible repeat (first | refine ze ?_ _ | refine zg ?_ | refine zf ?_ _)); exact BK565.out)) : gb565 ≠ gb576)); have n10_ := Aside0.mk ((by rw [hg]; exact Nat.ne_of_gt (zM (g := gb565) (o := .cells #[.int .i64 a1_0, .slice A1_1 l1_1.length c1_1] 26 (0, 0)) (by (with_reducible repeat (first | refine ze ?_ _ | refine zg ?_ | refine zf ?_ _)); exact BK565.out)) : gb576 ≠ gb565)); clear HO574; clear BK564; clear BK565; clear HB; have HO574 := n0_; have BK564 := n1_; have BK565 := n2_; have HB := n3_; have BK576 := n4_; have GW576 := n5_; have GE576 := n6_; have NB564_576 := n7_; have NB576_564 := n8_; have NB565_576 := n9_; have NB576_565 := n10_; clear n0_ n1_ n2_ n3_ n4_ n5_ n6_ n7_ n8_ n9_ n10_; clear hb hbox hg; have hnb48 := NB576_564.out; have hnc48 := NB564_576.out; have hnb49 := NB576_565.out; have hnc49 := NB565_576.out; have hcz50_0 : w47.cell? ⟨gb576, 0, none⟩ = some (.int .i64 0) := (zh BK576.out 0).trans rfl; have hcz50_1 : w47.cell? ⟨gb576, 1, none⟩ = some (.slice none 0 0) := (zh BK576.out 1).trans rfl; have hfz50_0 := zi BK576.out 0; have hfz50_1 := zi BK576.out 1; obtain ⟨Ao51, co51, eo51⟩ := Kd.qo HO574.out; subst eo51; have hcz52_0 : w47.cell? ⟨gb565, 0, none⟩ = some (.int .i64 a1_0) := (zh BK565.out 0).trans rfl; have hcz52_1 : w47.cell? ⟨gb565, 1, none⟩ = some (.slice A1_1 l1_1.length c1_1) := (zh BK565.out 1).trans rfl; have hfz52_0 := zi BK565.out 0; have hfz52_1 := zi BK565.out 1) | (go_at_call 47; (try simp only [zm, zn]); (with_reducible refine (zK.calls kj31 t571 _ _ t572 a1_0 _ _ l1_1 true _ ?side1 ?side2 ?side3 ?side4 A42.out).mono ?_); (case side1 => refine (Kd.zS (e := 3) (base := w.heap.size) (ok := fun k_ => True) (n := t572.length) (c := co51) ?_).2.2; exact (by (with_reducible repeat (first | apply Kd.zw | apply Kd.zx | apply Kd.zz)); exact (Kd.qn (Kd.qx (p := ⟨gb576, 1, none⟩) (Kd.qx (p := ⟨gb576, 0, none⟩) (Kd.qG HO574.out BK576.out (by decide)) (fun _ hk => hk.2) (.int .i64 t571)) (fun _ hk => hk.2) (.slice Ao51 t572.length co51)) (fun _ h_ => h_.1)))); (case side2 => exact (Kd.zS HO574.out).2.1); (case side3 => exact Kd.zG HR1_1.out (by repeat (first | (with_reducible first | exact HB.out | apply zc | apply za | apply zb | refine zd ?_ GE564.out | refine zd ?_ GE565.out | refine zd ?_ GE576.out) | exact HB.out))); (case side4 => exact HC1_1.out); rintro e w53 ⟨rfl, hb⟩; have n0_ := Aside0.mk (Kd.qq (by (with_reducible repeat (first | apply Kd.zw | apply Kd.zx | apply Kd.zz)); exact (Kd.qn (Kd.qx (p := ⟨gb576, 1, none⟩) (Kd.qx (p := ⟨gb576, 0, none⟩) (Kd.qG HO574.out BK576.out (by decide)) (fun _ hk => hk.2) (.int .i64 t571)) (fun _ hk => hk.2) (.slice Ao51 t572.length co51)) (fun _ h_ => h_.1))) hb); have n1_ := Aside0.mk (zj (g := gb564) (o := .cells #[.int .i64 a0_0, .slice A0_1 l0_1.length c0_1] 26 (0, 0)) (by (with_reducible repeat (first | refine ze ?_ _ | refine zg ?_ | refine zf ?_ _)); refine qw ?_ NB564_576.out _; (with_reducible repeat (first | refine ze ?_ _ | refine zg ?_ | refine zf ?_ _)); refine qw ?_ NB564_576.out _; (with_reducible repeat (first | refine ze ?_ _ | refine zg ?_ | refine zf ?_ _)); exact BK564.out) hb); have n2_ := Aside0.mk (zj (g := gb565) (o := .cells #[.int .i64 a1_0, .slice A1_1 l1_1.length c1_1] 26 (0, 0)) (by (with_reducible repeat (first | refine ze ?_ _ | refine zg ?_ | refine zf ?_ _)); refine qw ?_ NB565_576.out _; (with_reducible repeat (first | refine ze ?_ _ | refine zg ?_ | refine zf ?_ _)); refine qw ?_ NB565_576.out _; (with_reducible repeat (first | refine ze ?_ _ | refine zg ?_ | refine zf ?_ _)); exact BK565.out) hb); have n3_ := Aside0.mk (zj (g := gb576) (o := .cells #[.int .i64 t571, .slice Ao51 t572.length co51] 26 (0, 0)) (by (with_reducible repeat (first | refine ze ?_ _ | refine zg ?_ | refine zf ?_ _)); refine zV (cs := #[.int .i64 t571, .slice none 0 0]) ?_ 1 _ rfl; (with_reducible repeat (first | refine ze ?_ _ | refine zg ?_ | refine zf ?_ _)); refine zV (cs := #[.int .i64 0, .slice none 0 0]) ?_ 0 _ rfl; (with_reducible repeat (first | refine ze ?_ _ | refine zg ?_ | refine zf ?_ _)); exact BK576.out) hb); have n4_ := Aside0.mk (zl (by repeat (first | (with_reducible first | exact HB.out | apply zc | apply za | apply zb | refine zd ?_ GE564.out | refine zd ?_ GE565.out | refine zd ?_ GE576.out) | exact HB.out)) hb); clear HO574; clear BK564; clear BK565; clear BK576; clear HB; have HO574 := n0_; have BK564 := n1_; have BK565 := n2_; have BK576 := n3_; have HB := n4_; clear n0_ n1_ n2_ n3_ n4_; (try clear hb); (try clear hb2); (try clear hk); (try clear hi))))
              go_ret3
              exact ⟨by first | rfl | (simp [zt, zu] <;> rfl) | (simp [*, zt, zu] <;> rfl), by repeat (first | (with_reducible first | exact HB.out | apply zc | apply za | apply zb | refine zd ?_ GE564.out | refine zd ?_ GE565.out | refine zd ?_ GE576.out) | exact HB.out)⟩
             ·replace c43 := Bool.eq_false_iff.mpr c43
              subst c43
              have H1 : (zy.l1 kj31 x7_2 (wrap64 (x8_3 + 1)) a0_0 l0_1 a1_0 l1_1) = some (r1, r2, r3) := by rw [if_neg (show ¬ (false = true) by decide)] at H; exact H
              clear H
              have H := H1
              clear H1
              have H' := Aside0.mk H
              clear H
              have hnb54 := NB564_565.out
              have hnc54 := NB565_564.out
              have hcz55_0 : wc.cell? ⟨gb564, 0, none⟩ = some (.int .i64 a0_0) := (zh BK564.out 0).trans rfl
              have hcz55_1 : wc.cell? ⟨gb564, 1, none⟩ = some (.slice A0_1 l0_1.length c0_1) := (zh BK564.out 1).trans rfl
              have hfz55_0 := zi BK564.out 0
              have hfz55_1 := zi BK564.out 1
              go_wp2_with (first | (go_at_call 22; (try simp only [zm, zn]); (with_reducible refine (zU.calls kj31 a0_0 _ _ l0_1 x7_2 x8_3 t571 t572 t575 _ ?side1 ?side2 A41.out).mono ?_); (case side1 => repeat (first | exact (Kd.zG HR0_1.out HB.out) | (with_reducible refine Kd.zI ?_ _) | (with_reducible refine Kd.zH ?_ _) | (with_reducible refine Kd.zP ?_))); (case side2 => exact HC0_1.out); rintro e w56 ⟨v573, rfl, ho0, hb⟩; have n0_ := Aside0.mk (Kd.qB ho0 (zk (by repeat (first | (with_reducible first | exact HB.out | apply zc | apply za | apply zb | refine zd ?_ GE564.out | refine zd ?_ GE565.out) | exact HB.out)))); have n1_ := Aside0.mk (zj (g := gb564) (o := .cells #[.int .i64 a0_0, .slice A0_1 l0_1.length c0_1] 26 (0, 0)) (by (with_reducible repeat (first | refine ze ?_ _ | refine zg ?_ | refine zf ?_ _)); exact BK564.out) hb); have n2_ := Aside0.mk (zj (g := gb565) (o := .cells #[.int .i64 a1_0, .slice A1_1 l1_1.length c1_1] 26 (0, 0)) (by (with_reducible repeat (first | refine ze ?_ _ | refine zg ?_ | refine zf ?_ _)); exact BK565.out) hb); have n3_ := Aside0.mk (zl (by repeat (first | (with_reducible first | exact HB.out | apply zc | apply za | apply zb | refine zd ?_ GE564.out | refine zd ?_ GE565.out) | exact HB.out)) hb); clear BK564; clear BK565; clear HB; have HO574 := n0_; have BK564 := n1_; have BK565 := n2_; have HB := n3_; clear n0_ n1_ n2_ n3_; (try clear hb); (try clear hb2); (try clear hk); (try clear hi); (try clear ho0)) | ((with_reducible refine zD (N := 9) rfl ?_); refine zA ?hg (N := 9) ?hd (cs := #[.int .i64 0, .slice none 0 0]) (t := 26) ?hr ?_; (case hd => rfl); (case hg => rfl); (case hr => first | (go_simp; done) | (go_simp; rfl)); intro gb576 hg w57 hbox hb; have n0_ := Aside0.mk (Kd.qq (by (with_reducible repeat (first | apply Kd.zw | apply Kd.zx | apply Kd.zz)); exact HO574.out) hb); have n1_ := Aside0.mk (zj (g := gb564) (o := .cells #[.int .i64 a0_0, .slice A0_1 l0_1.length c0_1] 26 (0, 0)) (by (with_reducible repeat (first | refine ze ?_ _ | refine zg ?_ | refine zf ?_ _)); exact BK564.out) hb); have n2_ := Aside0.mk (zj (g := gb565) (o := .cells #[.int .i64 a1_0, .slice A1_1 l1_1.length c1_1] 26 (0, 0)) (by (with_reducible repeat (first | refine ze ?_ _ | refine zg ?_ | refine zf ?_ _)); exact BK565.out) hb); have n3_ := Aside0.mk (zl (by repeat (first | (with_reducible first | exact HB.out | apply zc | apply za | apply zb | refine zd ?_ GE564.out | refine zd ?_ GE565.out) | exact HB.out)) hb); have n4_ := Aside0.mk (hbox); have n5_ := Aside0.mk ((by rw [hg]; exact (zk (by repeat (first | (with_reducible first | exact HB.out | apply zc | apply za | apply zb | refine zd ?_ GE564.out | refine zd ?_ GE565.out) | exact HB.out))) : w.heap.size ≤ gb576)); have n6_ := Aside0.mk ((by rw [hg]; exact (zk (by repeat (first | (with_reducible first | exact HB.out | apply zc | apply za | apply zb | refine zd ?_ GE564.out | refine zd ?_ GE565.out) | exact HB.out))) : w.heap.size ≤ gb576)); have n7_ := Aside0.mk ((by rw [hg]; exact Nat.ne_of_lt (zM (g := gb564) (o := .cells #[.int .i64 a0_0, .slice A0_1 l0_1.length c0_1] 26 (0, 0)) (by (with_reducible repeat (first | refine ze ?_ _ | refine zg ?_ | refine zf ?_ _)); exact BK564.out)) : gb564 ≠ gb576)); have n8_ := Aside0.mk ((by rw [hg]; exact Nat.ne_of_gt (zM (g := gb564) (o := .cells #[.int .i64 a0_0, .slice A0_1 l0_1.length c0_1] 26 (0, 0)) (by (with_reducible repeat (first | refine ze ?_ _ | refine zg ?_ | refine zf ?_ _)); exact BK564.out)) : gb576 ≠ gb564)); have n9_ := Aside0.mk ((by rw [hg]; exact Nat.ne_of_lt (zM (g := gb565) (o := .cells #[.int .i64 a1_0, .slice A1_1 l1_1.length c1_1] 26 (0, 0)) (by (with_reducible repeat (first | refine ze ?_ _ | refine zg ?_ | refine zf ?_ _)); exact BK565.out)) : gb565 ≠ gb576)); have n10_ := Aside0.mk ((by rw [hg]; exact Nat.ne_of_gt (zM (g := gb565) (o := .cells #[.int .i64 a1_0, .slice A1_1 l1_1.length c1_1] 26 (0, 0)) (by (with_reducible repeat (first | refine ze ?_ _ | refine zg ?_ | refine zf ?_ _)); exact BK565.out)) : gb576 ≠ gb565)); clear HO574; clear BK564; clear BK565; clear HB; have HO574 := n0_; have BK564 := n1_; have BK565 := n2_; have HB := n3_; have BK576 := n4_; have GW576 := n5_; have GE576 := n6_; have NB564_576 := n7_; have NB576_564 := n8_; have NB565_576 := n9_; have NB576_565 := n10_; clear n0_ n1_ n2_ n3_ n4_ n5_ n6_ n7_ n8_ n9_ n10_; clear hb hbox hg; have hnb58 := NB576_564.out; have hnc58 := NB564_576.out; have hnb59 := NB576_565.out; have hnc59 := NB565_576.out; have hcz60_0 : w57.cell? ⟨gb576, 0, none⟩ = some (.int .i64 0) := (zh BK576.out 0).trans rfl; have hcz60_1 : w57.cell? ⟨gb576, 1, none⟩ = some (.slice none 0 0) := (zh BK576.out 1).trans rfl; have hfz60_0 := zi BK576.out 0; have hfz60_1 := zi BK576.out 1; obtain ⟨Ao61, co61, eo61⟩ := Kd.qo HO574.out; subst eo61; have hcz62_0 : w57.cell? ⟨gb565, 0, none⟩ = some (.int .i64 a1_0) := (zh BK565.out 0).trans rfl; have hcz62_1 : w57.cell? ⟨gb565, 1, none⟩ = some (.slice A1_1 l1_1.length c1_1) := (zh BK565.out 1).trans rfl; have hfz62_0 := zi BK565.out 0; have hfz62_1 := zi BK565.out 1) | (go_at_call 47; (try simp only [zm, zn]); (with_reducible refine (zK.calls kj31 t571 _ _ t572 a1_0 _ _ l1_1 false _ ?side1 ?side2 ?side3 ?side4 A42.out).mono ?_); (case side1 => refine (Kd.zS (e := 3) (base := w.heap.size) (ok := fun k_ => True) (n := t572.length) (c := co61) ?_).2.2; exact (by (with_reducible repeat (first | apply Kd.zw | apply Kd.zx | apply Kd.zz)); exact (Kd.qn (Kd.qx (p := ⟨gb576, 1, none⟩) (Kd.qx (p := ⟨gb576, 0, none⟩) (Kd.qG HO574.out BK576.out (by decide)) (fun _ hk => hk.2) (.int .i64 t571)) (fun _ hk => hk.2) (.slice Ao61 t572.length co61)) (fun _ h_ => h_.1)))); (case side2 => exact (Kd.zS HO574.out).2.1); (case side3 => exact Kd.zG HR1_1.out (by repeat (first | (with_reducible first | exact HB.out | apply zc | apply za | apply zb | refine zd ?_ GE564.out | refine zd ?_ GE565.out | refine zd ?_ GE576.out) | exact HB.out))); (case side4 => exact HC1_1.out); rintro e w63 ⟨rfl, hb⟩; have n0_ := Aside0.mk (Kd.qq (by (with_reducible repeat (first | apply Kd.zw | apply Kd.zx | apply Kd.zz)); exact (Kd.qn (Kd.qx (p := ⟨gb576, 1, none⟩) (Kd.qx (p := ⟨gb576, 0, none⟩) (Kd.qG HO574.out BK576.out (by decide)) (fun _ hk => hk.2) (.int .i64 t571)) (fun _ hk => hk.2) (.slice Ao61 t572.length co61)) (fun _ h_ => h_.1))) hb); have n1_ := Aside0.mk (zj (g := gb564) (o := .cells #[.int .i64 a0_0, .slice A0_1 l0_1.length c0_1] 26 (0, 0)) (by (with_reducible repeat (first | refine ze ?_ _ | refine zg ?_ | refine zf ?_ _)); refine qw ?_ NB564_576.out _; (with_reducible repeat (first | refine ze ?_ _ | refine zg ?_ | refine zf ?_ _)); refine qw ?_ NB564_576.out _; (with_reducible repeat (first | refine ze ?_ _ | refine zg ?_ | refine zf ?_ _)); exact BK564.out) hb); have n2_ := Aside0.mk (zj (g := gb565) (o := .cells #[.int .i64 a1_0, .slice A1_1 l1_1.length c1_1] 26 (0, 0)) (by (with_reducible repeat (first | refine ze ?_ _ | refine zg ?_ | refine zf ?_ _)); refine qw ?_ NB565_576.out _; (with_reducible repeat (first | refine ze ?_ _ | refine zg ?_ | refine zf ?_ _)); refine qw ?_ NB565_576.out _; (with_reducible repeat (first | refine ze ?_ _ | refine zg ?_ | refine zf ?_ _)); exact BK565.out) hb); have n3_ := Aside0.mk (zj (g := gb576) (o := .cells #[.int .i64 t571, .slice Ao61 t572.length co61] 26 (0, 0)) (by (with_reducible repeat (first | refine ze ?_ _ | refine zg ?_ | refine zf ?_ _)); refine zV (cs := #[.int .i64 t571, .slice none 0 0]) ?_ 1 _ rfl; (with_reducible repeat (first | refine ze ?_ _ | refine zg ?_ | refine zf ?_ _)); refine zV (cs := #[.int .i64 0, .slice none 0 0]) ?_ 0 _ rfl; (with_reducible repeat (first | refine ze ?_ _ | refine zg ?_ | refine zf ?_ _)); exact BK576.out) hb); have n4_ := Aside0.mk (zl (by repeat (first | (with_reducible first | exact HB.out | apply zc | apply za | apply zb | refine zd ?_ GE564.out | refine zd ?_ GE565.out | refine zd ?_ GE576.out) | exact HB.out)) hb); clear HO574; clear BK564; clear BK565; clear BK576; clear HB; have HO574 := n0_; have BK564 := n1_; have BK565 := n2_; have BK576 := n3_; have HB := n4_; clear n0_ n1_ n2_ n3_ n4_; (try clear hb); (try clear hb2); (try clear hk); (try clear hi)))
              repeat (go_quiet (first | (go_at_call 22; (try simp only [zm, zn]); (with_reducible refine (zU.calls kj31 a0_0 _ _ l0_1 x7_2 x8_3 t571 t572 t575 _ ?side1 ?side2 A41.out).mono ?_); (case side1 => repeat (first | exact (Kd.zG HR0_1.out HB.out) | (with_reducible refine Kd.zI ?_ _) | (with_reducible refine Kd.zH ?_ _) | (with_reducible refine Kd.zP ?_))); (case side2 => exact HC0_1.out); rintro e w56 ⟨v573, rfl, ho0, hb⟩; have n0_ := Aside0.mk (Kd.qB ho0 (zk (by repeat (first | (with_reducible first | exact HB.out | apply zc | apply za | apply zb | refine zd ?_ GE564.out | refine zd ?_ GE565.out) | exact HB.out)))); have n1_ := Aside0.mk (zj (g := gb564) (o := .cells #[.int .i64 a0_0, .slice A0_1 l0_1.length c0_1] 26 (0, 0)) (by (with_reducible repeat (first | refine ze ?_ _ | refine zg ?_ | refine zf ?_ _)); exact BK564.out) hb); have n2_ := Aside0.mk (zj (g := gb565) (o := .cells #[.int .i64 a1_0, .slice A1_1 l1_1.length c1_1] 26 (0, 0)) (by (with_reducible repeat (first | refine ze ?_ _ | refine zg ?_ | refine zf ?_ _)); exact BK565.out) hb); have n3_ := Aside0.mk (zl (by repeat (first | (with_reducible first | exact HB.out | apply zc | apply za | apply zb | refine zd ?_ GE564.out | refine zd ?_ GE565.out) | exact HB.out)) hb); clear BK564; clear BK565; clear HB; have HO574 := n0_; have BK564 := n1_; have BK565 := n2_; have HB := n3_; clear n0_ n1_ n2_ n3_; (try clear hb); (try clear hb2); (try clear hk); (try clear hi); (try clear ho0)) | ((with_reducible refine zD (N := 9) rfl ?_); refine zA ?hg (N := 9) ?hd (cs := #[.int .i64 0, .slice none 0 0]) (t := 26) ?hr ?_; (case hd => rfl); (case hg => rfl); (case hr => first | (go_simp; done) | (go_simp; rfl)); intro gb576 hg w57 hbox hb; have n0_ := Aside0.mk (Kd.qq (by (with_reducible repeat (first | apply Kd.zw | apply Kd.zx | apply Kd.zz)); exact HO574.out) hb); have n1_ := Aside0.mk (zj (g := gb564) (o := .cells #[.int .i64 a0_0, .slice A0_1 l0_1.length c0_1] 26 (0, 0)) (by (with_reducible repeat (first | refine ze ?_ _ | refine zg ?_ | refine zf ?_ _)); exact BK564.out) hb); have n2_ := Aside0.mk (zj (g := gb565) (o := .cells #[.int .i64 a1_0, .slice A1_1 l1_1.length c1_1] 26 (0, 0)) (by (with_reducible repeat (first | refine ze ?_ _ | refine zg ?_ | refine zf ?_ _)); exact BK565.out) hb); have n3_ := Aside0.mk (zl (by repeat (first | (with_reducible first | exact HB.out | apply zc | apply za | apply zb | refine zd ?_ GE564.out | refine zd ?_ GE565.out) | exact HB.out)) hb); have n4_ := Aside0.mk (hbox); have n5_ := Aside0.mk ((by rw [hg]; exact (zk (by repeat (first | (with_reducible first | exact HB.out | apply zc | apply za | apply zb | refine zd ?_ GE564.out | refine zd ?_ GE565.out) | exact HB.out))) : w.heap.size ≤ gb576)); have n6_ := Aside0.mk ((by rw [hg]; exact (zk (by repeat (first | (with_reducible first | exact HB.out | apply zc | apply za | apply zb | refine zd ?_ GE564.out | refine zd ?_ GE565.out) | exact HB.out))) : w.heap.size ≤ gb576)); have n7_ := Aside0.mk ((by rw [hg]; exact Nat.ne_of_lt (zM (g := gb564) (o := .cells #[.int .i64 a0_0, .slice A0_1 l0_1.length c0_1] 26 (0, 0)) (by (with_reducible repeat (first | refine ze ?_ _ | refine zg ?_ | refine zf ?_ _)); exact BK564.out)) : gb564 ≠ gb576)); have n8_ := Aside0.mk ((by rw [hg]; exact Nat.ne_of_gt (zM (g := gb564) (o := .cells #[.int .i64 a0_0, .slice A0_1 l0_1.length c0_1] 26 (0, 0)) (by (with_reducible repeat (first | refine ze ?_ _ | refine zg ?_ | refine zf ?_ _)); exact BK564.out)) : gb576 ≠ gb564)); have n9_ := Aside0.mk ((by rw [hg]; exact Nat.ne_of_lt (zM (g := gb565) (o := .cells #[.int .i64 a1_0, .slice A1_1 l1_1.length c1_1] 26 (0, 0)) (by (with_reducible repeat (first | refine ze ?_ _ | refine zg ?_ | refine zf ?_ _)); exact BK565.out)) : gb565 ≠ gb576)); have n10_ := Aside0.mk ((by rw [hg]; exact Nat.ne_of_gt (zM (g := gb565) (o := .cells #[.int .i64 a1_0, .slice A1_1 l1_1.length c1_1] 26 (0, 0)) (by (with_reducible repeat (first | refine ze ?_ _ | refine zg ?_ | refine zf ?_ _)); exact BK565.out)) : gb576 ≠ gb565)); clear HO574; clear BK564; clear BK565; clear HB; have HO574 := n0_; have BK564 := n1_; have BK565 := n2_; have HB := n3_; have BK576 := n4_; have GW576 := n5_; have GE576 := n6_; have NB564_576 := n7_; have NB576_564 := n8_; have NB565_576 := n9_; have NB576_565 := n10_; clear n0_ n1_ n2_ n3_ n4_ n5_ n6_ n7_ n8_ n9_ n10_; clear hb hbox hg; have hnb58 := NB576_564.out; have hnc58 := NB564_576.out; have hnb59 := NB576_565.out; have hnc59 := NB565_576.out; have hcz60_0 : w57.cell? ⟨gb576, 0, none⟩ = some (.int .i64 0) := (zh BK576.out 0).trans rfl; have hcz60_1 : w57.cell? ⟨gb576, 1, none⟩ = some (.slice none 0 0) := (zh BK576.out 1).trans rfl; have hfz60_0 := zi BK576.out 0; have hfz60_1 := zi BK576.out 1; obtain ⟨Ao61, co61, eo61⟩ := Kd.qo HO574.out; subst eo61; have hcz62_0 : w57.cell? ⟨gb565, 0, none⟩ = some (.int .i64 a1_0) := (zh BK565.out 0).trans rfl; have hcz62_1 : w57.cell? ⟨gb565, 1, none⟩ = some (.slice A1_1 l1_1.length c1_1) := (zh BK565.out 1).trans rfl; have hfz62_0 := zi BK565.out 0; have hfz62_1 := zi BK565.out 1) | (go_at_call 47; (try simp only [zm, zn]); (with_reducible refine (zK.calls kj31 t571 _ _ t572 a1_0 _ _ l1_1 false _ ?side1 ?side2 ?side3 ?side4 A42.out).mono ?_); (case side1 => refine (Kd.zS (e := 3) (base := w.heap.size) (ok := fun k_ => True) (n := t572.length) (c := co61) ?_).2.2; exact (by (with_reducible repeat (first | apply Kd.zw | apply Kd.zx | apply Kd.zz)); exact (Kd.qn (Kd.qx (p := ⟨gb576, 1, none⟩) (Kd.qx (p := ⟨gb576, 0, none⟩) (Kd.qG HO574.out BK576.out (by decide)) (fun _ hk => hk.2) (.int .i64 t571)) (fun _ hk => hk.2) (.slice Ao61 t572.length co61)) (fun _ h_ => h_.1)))); (case side2 => exact (Kd.zS HO574.out).2.1); (case side3 => exact Kd.zG HR1_1.out (by repeat (first | (with_reducible first | exact HB.out | apply zc | apply za | apply zb | refine zd ?_ GE564.out | refine zd ?_ GE565.out | refine zd ?_ GE576.out) | exact HB.out))); (case side4 => exact HC1_1.out); rintro e w63 ⟨rfl, hb⟩; have n0_ := Aside0.mk (Kd.qq (by (with_reducible repeat (first | apply Kd.zw | apply Kd.zx | apply Kd.zz)); exact (Kd.qn (Kd.qx (p := ⟨gb576, 1, none⟩) (Kd.qx (p := ⟨gb576, 0, none⟩) (Kd.qG HO574.out BK576.out (by decide)) (fun _ hk => hk.2) (.int .i64 t571)) (fun _ hk => hk.2) (.slice Ao61 t572.length co61)) (fun _ h_ => h_.1))) hb); have n1_ := Aside0.mk (zj (g := gb564) (o := .cells #[.int .i64 a0_0, .slice A0_1 l0_1.length c0_1] 26 (0, 0)) (by (with_reducible repeat (first | refine ze ?_ _ | refine zg ?_ | refine zf ?_ _)); refine qw ?_ NB564_576.out _; (with_reducible repeat (first | refine ze ?_ _ | refine zg ?_ | refine zf ?_ _)); refine qw ?_ NB564_576.out _; (with_reducible repeat (first | refine ze ?_ _ | refine zg ?_ | refine zf ?_ _)); exact BK564.out) hb); have n2_ := Aside0.mk (zj (g := gb565) (o := .cells #[.int .i64 a1_0, .slice A1_1 l1_1.length c1_1] 26 (0, 0)) (by (with_reducible repeat (first | refine ze ?_ _ | refine zg ?_ | refine zf ?_ _)); refine qw ?_ NB565_576.out _; (with_reducible repeat (first | refine ze ?_ _ | refine zg ?_ | refine zf ?_ _)); refine qw ?_ NB565_576.out _; (with_reducible repeat (first | refine ze ?_ _ | refine zg ?_ | refine zf ?_ _)); exact BK565.out) hb); have n3_ := Aside0.mk (zj (g := gb576) (o := .cells #[.int .i64 t571, .slice Ao61 t572.length co61] 26 (0, 0)) (by (with_reducible repeat (first | refine ze ?_ _ | refine zg ?_ | refine zf ?_ _)); refine zV (cs := #[.int .i64 t571, .slice none 0 0]) ?_ 1 _ rfl; (with_reducible repeat (first | refine ze ?_ _ | refine zg ?_ | refine zf ?_ _)); refine zV (cs := #[.int .i64 0, .slice none 0 0]) ?_ 0 _ rfl; (with_reducible repeat (first | refine ze ?_ _ | refine zg ?_ | refine zf ?_ _)); exact BK576.out) hb); have n4_ := Aside0.mk (zl (by repeat (first | (with_reducible first | exact HB.out | apply zc | apply za | apply zb | refine zd ?_ GE564.out | refine zd ?_ GE565.out | refine zd ?_ GE576.out) | exact HB.out)) hb); clear HO574; clear BK564; clear BK565; clear BK576; clear HB; have HO574 := n0_; have BK564 := n1_; have BK565 := n2_; have BK576 := n3_; have HB := n4_; clear n0_ n1_ n2_ n3_ n4_; (try clear hb); (try clear hb2); (try clear hk); (try clear hi))); try go_wp2_with (first | (go_at_call 22; (try simp only [zm, zn]); (with_reducible refine (zU.calls kj31 a0_0 _ _ l0_1 x7_2 x8_3 t571 t572 t575 _ ?side1 ?side2 A41.out).mono ?_); (case side1 => repeat (first | exact (Kd.zG HR0_1.out HB.out) | (with_reducible refine Kd.zI ?_ _) | (with_reducible refine Kd.zH ?_ _) | (with_reducible refine Kd.zP ?_))); (case side2 => exact HC0_1.out); rintro e w56 ⟨v573, rfl, ho0, hb⟩; have n0_ := Aside0.mk (Kd.qB ho0 (zk (by repeat (first | (with_reducible first | exact HB.out | apply zc | apply za | apply zb | refine zd ?_ GE564.out | refine zd ?_ GE565.out) | exact HB.out)))); have n1_ := Aside0.mk (zj (g := gb564) (o := .cells #[.int .i64 a0_0, .slice A0_1 l0_1.length c0_1] 26 (0, 0)) (by (with_reducible repeat (first | refine ze ?_ _ | refine zg ?_ | refine zf ?_ _)); exact BK564.out) hb); have n2_ := Aside0.mk (zj (g := gb565) (o := .cells #[.int .i64 a1_0, .slice A1_1 l1_1.length c1_1] 26 (0, 0)) (by (with_reducible repeat (first | refine ze ?_ _ | refine zg ?_ | refine zf ?_ _)); exact BK565.out) hb); have n3_ := Aside0.mk (zl (by repeat (first | (with_reducible first | exact HB.out | apply zc | apply za | apply zb | refine zd ?_ GE564.out | refine zd ?_ GE565.out) | exact HB.out)) hb); clear BK564; clear BK565; clear HB; have HO574 := n0_; have BK564 := n1_; have BK565 := n2_; have HB := n3_; clear n0_ n1_ n2_ n3_; (try clear hb); (try clear hb2); (try clear hk); (try clear hi); (try clear ho0)) | ((with_reducible refine zD (N := 9) rfl ?_); refine zA ?hg (N := 9) ?hd (cs := #[.int .i64 0, .slice none 0 0]) (t := 26) ?hr ?_; (case hd => rfl); (case hg => rfl); (case hr => first | (go_simp; done) | (go_simp; rfl)); intro gb576 hg w57 hbox hb; have n0_ := Aside0.mk (Kd.qq (by (with_reducible repeat (first | apply Kd.zw | apply Kd.zx | apply Kd.zz)); exact HO574.out) hb); have n1_ := Aside0.mk (zj (g := gb564) (o := .cells #[.int .i64 a0_0, .slice A0_1 l0_1.length c0_1] 26 (0, 0)) (by (with_reducible repeat (first | refine ze ?_ _ | refine zg ?_ | refine zf ?_ _)); exact BK564.out) hb); have n2_ := Aside0.mk (zj (g := gb565) (o := .cells #[.int .i64 a1_0, .slice A1_1 l1_1.length c1_1] 26 (0, 0)) (by (with_reducible repeat (first | refine ze ?_ _ | refine zg ?_ | refine zf ?_ _)); exact BK565.out) hb); have n3_ := Aside0.mk (zl (by repeat (first | (with_reducible first | exact HB.out | apply zc | apply za | apply zb | refine zd ?_ GE564.out | refine zd ?_ GE565.out) | exact HB.out)) hb); have n4_ := Aside0.mk (hbox); have n5_ := Aside0.mk ((by rw [hg]; exact (zk (by repeat (first | (with_reducible first | exact HB.out | apply zc | apply za | apply zb | refine zd ?_ GE564.out | refine zd ?_ GE565.out) | exact HB.out))) : w.heap.size ≤ gb576)); have n6_ := Aside0.mk ((by rw [hg]; exact (zk (by repeat (first | (with_reducible first | exact HB.out | apply zc | apply za | apply zb | refine zd ?_ GE564.out | refine zd ?_ GE565.out) | exact HB.out))) : w.heap.size ≤ gb576)); have n7_ := Aside0.mk ((by rw [hg]; exact Nat.ne_of_lt (zM (g := gb564) (o := .cells #[.int .i64 a0_0, .slice A0_1 l0_1.length c0_1] 26 (0, 0)) (by (with_reducible repeat (first | refine ze ?_ _ | refine zg ?_ | refine zf ?_ _)); exact BK564.out)) : gb564 ≠ gb576)); have n8_ := Aside0.mk ((by rw [hg]; exact Nat.ne_of_gt (zM (g := gb564) (o := .cells #[.int .i64 a0_0, .slice A0_1 l0_1.length c0_1] 26 (0, 0)) (by (with_reducible repeat (first | refine ze ?_ _ | refine zg ?_ | refine zf ?_ _)); exact BK564.out)) : gb576 ≠ gb564)); have n9_ := Aside0.mk ((by rw [hg]; exact Nat.ne_of_lt (zM (g := gb565) (o := .cells #[.int .i64 a1_0, .slice A1_1 l1_1.length c1_1] 26 (0, 0)) (by (with_reducible repeat (first | refine ze ?_ _ | refine zg ?_ | refine zf ?_ _)); exact BK565.out)) : gb565 ≠ gb576)); have n10_ := Aside0.mk ((by rw [hg]; exact Nat.ne_of_gt (zM (g := gb565) (o := .cells #[.int .i64 a1_0, .slice A1_1 l1_1.length c1_1] 26 (0, 0)) (by (with_reducible repeat (first | refine ze ?_ _ | refine zg ?_ | refine zf ?_ _)); exact BK565.out)) : gb576 ≠ gb565)); clear HO574; clear BK564; clear BK565; clear HB; have HO574 := n0_; have BK564 := n1_; have BK565 := n2_; have HB := n3_; have BK576 := n4_; have GW576 := n5_; have GE576 := n6_; have NB564_576 := n7_; have NB576_564 := n8_; have NB565_576 := n9_; have NB576_565 := n10_; clear n0_ n1_ n2_ n3_ n4_ n5_ n6_ n7_ n8_ n9_ n10_; clear hb hbox hg; have hnb58 := NB576_564.out; have hnc58 := NB564_576.out; have hnb59 := NB576_565.out; have hnc59 := NB565_576.out; have hcz60_0 : w57.cell? ⟨gb576, 0, none⟩ = some (.int .i64 0) := (zh BK576.out 0).trans rfl; have hcz60_1 : w57.cell? ⟨gb576, 1, none⟩ = some (.slice none 0 0) := (zh BK576.out 1).trans rfl; have hfz60_0 := zi BK576.out 0; have hfz60_1 := zi BK576.out 1; obtain ⟨Ao61, co61, eo61⟩ := Kd.qo HO574.out; subst eo61; have hcz62_0 : w57.cell? ⟨gb565, 0, none⟩ = some (.int .i64 a1_0) := (zh BK565.out 0).trans rfl; have hcz62_1 : w57.cell? ⟨gb565, 1, none⟩ = some (.slice A1_1 l1_1.length c1_1) := (zh BK565.out 1).trans rfl; have hfz62_0 := zi BK565.out 0; have hfz62_1 := zi BK565.out 1) | (go_at_call 47; (try simp only [zm, zn]); (with_reducible refine (zK.calls kj31 t571 _ _ t572 a1_0 _ _ l1_1 false _ ?side1 ?side2 ?side3 ?side4 A42.out).mono ?_); (case side1 => refine (Kd.zS (e := 3) (base := w.heap.size) (ok := fun k_ => True) (n := t572.length) (c := co61) ?_).2.2; exact (by (with_reducible repeat (first | apply Kd.zw | apply Kd.zx | apply Kd.zz)); exact (Kd.qn (Kd.qx (p := ⟨gb576, 1, none⟩) (Kd.qx (p := ⟨gb576, 0, none⟩) (Kd.qG HO574.out BK576.out (by decide)) (fun _ hk => hk.2) (.int .i64 t571)) (fun _ hk => hk.2) (.slice Ao61 t572.length co61)) (fun _ h_ => h_.1)))); (case side2 => exact (Kd.zS HO574.out).2.1); (case side3 => exact Kd.zG HR1_1.out (by repeat (first | (with_reducible first | exact HB.out | apply zc | apply za | apply zb | refine zd ?_ GE564.out | refine zd ?_ GE565.out | refine zd ?_ GE576.out) | exact HB.out))); (case side4 => exact HC1_1.out); rintro e w63 ⟨rfl, hb⟩; have n0_ := Aside0.mk (Kd.qq (by (with_reducible repeat (first | apply Kd.zw | apply Kd.zx | apply Kd.zz)); exact (Kd.qn (Kd.qx (p := ⟨gb576, 1, none⟩) (Kd.qx (p := ⟨gb576, 0, none⟩) (Kd.qG HO574.out BK576.out (by decide)) (fun _ hk => hk.2) (.int .i64 t571)) (fun _ hk => hk.2) (.slice Ao61 t572.length co61)) (fun _ h_ => h_.1))) hb); have n1_ := Aside0.mk (zj (g := gb564) (o := .cells #[.int .i64 a0_0, .slice A0_1 l0_1.length c0_1] 26 (0, 0)) (by (with_reducible repeat (first | refine ze ?_ _ | refine zg ?_ | refine zf ?_ _)); refine qw ?_ NB564_576.out _; (with_reducible repeat (first | refine ze ?_ _ | refine zg ?_ | refine zf ?_ _)); refine qw ?_ NB564_576.out _; (with_reducible repeat (first | refine ze ?_ _ | refine zg ?_ | refine zf ?_ _)); exact BK564.out) hb); have n2_ := Aside0.mk (zj (g := gb565) (o := .cells #[.int .i64 a1_0, .slice A1_1 l1_1.length c1_1] 26 (0, 0)) (by (with_reducible repeat (first | refine ze ?_ _ | refine zg ?_ | refine zf ?_ _)); refine qw ?_ NB565_576.out _; (with_reducible repeat (first | refine ze ?_ _ | refine zg ?_ | refine zf ?_ _)); refine qw ?_ NB565_576.out _; (with_reducible repeat (first | refine ze ?_ _ | refine zg ?_ | refine zf ?_ _)); exact BK565.out) hb); have n3_ := Aside0.mk (zj (g := gb576) (o := .cells #[.int .i64 t571, .slice Ao61 t572.length co61] 26 (0, 0)) (by (with_reducible repeat (first | refine ze ?_ _ | refine zg ?_ | refine zf ?_ _)); refine zV (cs := #[.int .i64 t571, .slice none 0 0]) ?_ 1 _ rfl; (with_reducible repeat (first | refine ze ?_ _ | refine zg ?_ | refine zf ?_ _)); refine zV (cs := #[.int .i64 0, .slice none 0 0]) ?_ 0 _ rfl; (with_reducible repeat (first | refine ze ?_ _ | refine zg ?_ | refine zf ?_ _)); exact BK576.out) hb); have n4_ := Aside0.mk (zl (by repeat (first | (with_reducible first | exact HB.out | apply zc | apply za | apply zb | refine zd ?_ GE564.out | refine zd ?_ GE565.out | refine zd ?_ GE576.out) | exact HB.out)) hb); clear HO574; clear BK564; clear BK565; clear BK576; clear HB; have HO574 := n0_; have BK564 := n1_; have BK565 := n2_; have BK576 := n3_; have HB := n4_; clear n0_ n1_ n2_ n3_ n4_; (try clear hb); (try clear hb2); (try clear hk); (try clear hi))))
              go_roundg kj31
              case measure => have := HJ2.out; have := HK2.out; have := HK3.out; have := HJ31.out; omega
              case rel => exact ⟨(wrap64 (x8_3 + 1)), (by first | rfl | (simp; done) | (simp [*]; done)), H', ⟨by have := HJ2.out; have := HK2.out; have := HK3.out; have := HJ31.out; omega⟩, ⟨by (with_reducible repeat (first | refine ze ?_ _ | refine zg ?_ | refine zf ?_ _)); exact BK564.out⟩, ⟨by (with_reducible repeat (first | refine ze ?_ _ | refine zg ?_ | refine zf ?_ _)); exact BK565.out⟩, ⟨by repeat (first | (with_reducible first | exact HB.out | apply zc | apply za | apply zb | refine zd ?_ GE564.out | refine zd ?_ GE565.out | refine zd ?_ GE576.out) | exact HB.out)⟩⟩
         ·rw [if_neg c31] at H
          have c31b0 : decide (x8_3 ≤ t569) = false := decide_eq_false c31
          clear c31
          have H' := Aside0.mk H
          clear H
          have hnb64 := NB564_565.out
          have hnc64 := NB565_564.out
          have hcz65_0 : wr.cell? ⟨gb564, 0, none⟩ = some (.int .i64 a0_0) := (zh BK564.out 0).trans rfl
          have hcz65_1 : wr.cell? ⟨gb564, 1, none⟩ = some (.slice A0_1 l0_1.length c0_1) := (zh BK564.out 1).trans rfl
          have hfz65_0 := zi BK564.out 0
          have hfz65_1 := zi BK564.out 1
          go_wp2_with (first | (go_at_call 36; (try simp only [zm, zn]); (with_reducible refine (zZ.calls a0_0 t569 _ A30.out).mono ?_); rintro e w' ⟨rfl, ⟨nd, rfl⟩⟩; (try first | exact ⟨rfl, _, World.drewN_drewN _ _ _⟩ | exact ⟨rfl, _, Eq.trans (World.drewN_drewN _ _ _) (congrArg (World.drewN _) (Nat.add_assoc _ _ _))⟩)))
          repeat (go_quiet (first | (go_at_call 36; (try simp only [zm, zn]); (with_reducible refine (zZ.calls a0_0 t569 _ A30.out).mono ?_); rintro e w' ⟨rfl, ⟨nd, rfl⟩⟩; (try first | exact ⟨rfl, _, World.drewN_drewN _ _ _⟩ | exact ⟨rfl, _, Eq.trans (World.drewN_drewN _ _ _) (congrArg (World.drewN _) (Nat.add_assoc _ _ _))⟩))); try go_wp2_with (first | (go_at_call 36; (try simp only [zm, zn]); (with_reducible refine (zZ.calls a0_0 t569 _ A30.out).mono ?_); rintro e w' ⟨rfl, ⟨nd, rfl⟩⟩; (try first | exact ⟨rfl, _, World.drewN_drewN _ _ _⟩ | exact ⟨rfl, _, Eq.trans (World.drewN_drewN _ _ _) (congrArg (World.drewN _) (Nat.add_assoc _ _ _))⟩))))
          go_roundg k3
          case measure => have := HJ2.out; have := HK2.out; have := HK3.out; omega
          case rel => exact ⟨(wrap64 (x7_2 + 1)), (by first | rfl | (simp; done) | (simp [*]; done)), H', ⟨by have := HJ2.out; have := HK2.out; have := HK3.out; omega⟩, ⟨by (with_reducible repeat (first | refine ze ?_ _ | refine zg ?_ | refine zf ?_ _)); exact BK564.out⟩, ⟨by (with_reducible repeat (first | refine ze ?_ _ | refine zg ?_ | refine zf ?_ _)); exact BK565.out⟩, ⟨by repeat (first | (with_reducible first | exact HB.out | apply zc | apply za | apply zb | refine zd ?_ GE564.out | refine zd ?_ GE565.out) | exact HB.out)⟩⟩
      ·rw [if_neg c27] at H
       have c27b0 : decide (x7_2 ≤ t568) = false := decide_eq_false c27
       clear c27
       simp only [Option.some.injEq, Prod.mk.injEq] at H
       obtain ⟨rfl, rfl, rfl⟩ := H
       have hnb66 := NB564_565.out
       have hnc66 := NB565_564.out
       have hcz67_0 : wr.cell? ⟨gb564, 0, none⟩ = some (.int .i64 a0_0) := (zh BK564.out 0).trans rfl
       have hcz67_1 : wr.cell? ⟨gb564, 1, none⟩ = some (.slice A0_1 l0_1.length c0_1) := (zh BK564.out 1).trans rfl
       have hfz67_0 := zi BK564.out 0
       have hfz67_1 := zi BK564.out 1
       go_wp2_with (first | (go_at_call 36; (try simp only [zm, zn]); (with_reducible refine (zZ.calls a0_0 t568 _ A26.out).mono ?_); rintro e w' ⟨rfl, ⟨nd, rfl⟩⟩; (try first | exact ⟨rfl, _, World.drewN_drewN _ _ _⟩ | exact ⟨rfl, _, Eq.trans (World.drewN_drewN _ _ _) (congrArg (World.drewN _) (Nat.add_assoc _ _ _))⟩)))
       repeat (go_quiet (first | (go_at_call 36; (try simp only [zm, zn]); (with_reducible refine (zZ.calls a0_0 t568 _ A26.out).mono ?_); rintro e w' ⟨rfl, ⟨nd, rfl⟩⟩; (try first | exact ⟨rfl, _, World.drewN_drewN _ _ _⟩ | exact ⟨rfl, _, Eq.trans (World.drewN_drewN _ _ _) (congrArg (World.drewN _) (Nat.add_assoc _ _ _))⟩))); try go_wp2_with (first | (go_at_call 36; (try simp only [zm, zn]); (with_reducible refine (zZ.calls a0_0 t568 _ A26.out).mono ?_); rintro e w' ⟨rfl, ⟨nd, rfl⟩⟩; (try first | exact ⟨rfl, _, World.drewN_drewN _ _ _⟩ | exact ⟨rfl, _, Eq.trans (World.drewN_drewN _ _ _) (congrArg (World.drewN _) (Nat.add_assoc _ _ _))⟩))))
       go_ret3
       exact ⟨by first | rfl | (simp [zt, zu] <;> rfl) | (simp [*, zt, zu] <;> rfl), by repeat (first | (with_reducible first | exact HB.out | apply zc | apply za | apply zb | refine zd ?_ GE564.out | refine zd ?_ GE565.out) | exact HB.out)⟩

end Go.Proofs.Ytkmcefhchhahhaa.F
end
section
namespace Go.Proofs.Ytkmcefhchhahhaa.F
open Go.RowKit Go.Proofs.YtkmcefhchhahhaaW.PrintWords Go.Proofs.YtkmcefhchhahhaaW.PrintLast Go.Proofs.YtkmcefhchhahhaaW.PrintMore
set_option linter.unusedSimpArgs false
set_option linter.unusedVariables false
/-- Function g, bound to lb, answers as1 the partial function q says, in every world in which all that lay in w lies unturned. -/
def Yn (g : Nat) (lb : Array Value) (q : Int → Option Bool) (w : World) : Prop :=
  ∀ (W : World) (x : Int) (r : Bool), q x = some r → Below w.heap.size w W → Calls Try.prog g (#[.int .i64 x] ++ lb) W fun e w' => e = .returned (.bool r) ∧ Below W.heap.size W w'
/-- The place of the first element of which q says yes, counted from i; -1 where there is none. -/
def JY (q : Int → Option Bool) : Int → List Int → Option Int
  | _, [] => some (-1)
  | i, x :: t => (q x).bind fun b => if b = true then some i else JY q (i + 1) t
def Jf (q : Int → Option Bool) : List Int → Option Bool
  | [] => some false
  | x :: t => (q x).bind fun b => if b = true then some true else Jf q t
theorem JU (q : Int → Option Bool) : ∀ (l : List Int) (i : Int) (r : Bool), 0 ≤ i → Jf q l = some r → ∃ m, JY q i l = some m ∧ decide (0 ≤ m) = r
  | [], i, r, _, h => by
    simp only [Jf, Option.some.injEq] at h
    exact ⟨-1, rfl, by rw [← h]; rfl⟩
  | x :: t, i, r, h0, h => by
    simp only [Jf, Option.bind_eq_some_iff] at h
    obtain ⟨b, hb, h⟩ := h
    cases b with
    | true => simp only [if_true, Option.some.injEq] at h; exact ⟨i, by simp [JY, hb], by rw [← h]; simpa using h0⟩
    | false =>
      simp only [Bool.false_eq_true, if_false] at h
      obtain ⟨m, h1, h2⟩ := JU q t (i + 1) r (by omega) h
      exact ⟨m, by simp [JY, hb, h1], h2⟩
theorem ZY (q : Int → Option Bool) (g : Nat) (lb : Array Value) (eg : ∀ args w, (callFunc g args).run Try.prog w = .ok (.enter g args) w) (A0 : Option Addr) (c0 : Nat) (l0 : List Int) (r : Int) (w : World)
    (hp : Yn g lb q w) (hr0 : Kd.C (Kd.int .i64) w A0 l0.length l0) (hc0 : l0.length ≤ c0) (hs : l0.length ≤ 17592186044416) (h : JY q 0 l0 = some r) :
    Calls Try.prog 88 #[.slice A0 l0.length c0, .func (.func g) #[] lb] w fun e w' => e = .returned (.int .i64 r) ∧ Below w.heap.size w w' := by
  have HR0 := Aside0.mk hr0
  have HC0 := Aside0.mk hc0
  have HP := Aside0.mk hp
  have H0 := Aside0.mk h
  have HS := Aside0.mk hs
  clear hr0 hc0 hp h hs
  go_enter Try.func88, Try.ntmps88
  go_wp2
  go_loopg [8] l0.length (fun kq v8 w' => ∃ (i : Int), v8 = .int .i64 i ∧ Aside0 (0 ≤ i ∧ i ≤ l0.length) ∧ Aside0 (JY q i (l0.drop i.toNat) = some r) ∧ Aside0 (l0.length - i.toNat ≤ kq) ∧ Aside0 (Below w.heap.size w w'))
  case atStart => exact ⟨0, rfl, ⟨Int.le_refl _, by omega⟩, ⟨by simpa using H0.out⟩, ⟨by simp⟩, ⟨Below.refl _ _⟩⟩
  case round =>
    clear H0
    obtain ⟨i, rfl, HI, HD, HK, HB⟩ := hrel
    by_cases c3 : i < (l0.length : Int)
    · have hi0 := HI.out.1
      have hi : i.toNat < l0.length := by omega
      have hi1 : (i + 1).toNat = i.toNat + 1 := by omega
      have c3b0 : decide (i < (l0.length : Int)) = true := decide_eq_true c3
      obtain ⟨ad, ead, hx⟩ := Kd.qd (Kd.zG HR0.out HB.out) i hi0 c3
      cases ead
      have hd := HD.out
      rw [List.drop_eq_getElem_cons hi] at hd
      simp only [JY, Option.bind_eq_some_iff] at hd
      obtain ⟨b, hb, hd⟩ := hd
      have hrd : rd l0 i = l0[i.toNat] := by simp [rd, List.getElem?_eq_getElem hi]
      rw [← hrd] at hb
      have HD' := Aside0.mk hd
      have HBb := Aside0.mk hb
      have HI1 := Aside0.mk hi1
      have HI2 := Aside0.mk (show 0 ≤ i ∧ i + 1 ≤ l0.length by omega)
      have p7 := eq_true hi0
      have q7 := eq_true c3
      clear hd hb hrd HD hi hi0 c3 hi1
      have hcall := HP.out _ _ _ HBb.out HB.out
      cases b with
      | true =>
        have hr := HD'.out
        simp only [if_true, Option.some.injEq] at hr
        subst hr
        clear HD'
        go_wp2
        refine hcall.mono ?_
        rintro e w' ⟨rfl, hb⟩
        have n0_ := Aside0.mk (zl HB.out hb)
        clear HB hb hx hcall
        have HB := n0_
        clear n0_
        go_wp2
        go_ret
        exact ⟨rfl, HB.out⟩
      | false =>
        have hr := HD'.out
        simp only [Bool.false_eq_true, if_false] at hr
        have HD2 := Aside0.mk hr
        clear HD' hr
        go_wp2
        refine hcall.mono ?_
        rintro e w' ⟨rfl, hb⟩
        have n0_ := Aside0.mk (zl HB.out hb)
        clear HB hb hx hcall
        have HB := n0_
        clear n0_
        go_wp2
        go_roundg (l0.length - (i.toNat + 1))
        case measure => have := HK.out; have := HI2.out; omega
        case rel => exact ⟨i + 1, by rw [show wrap64 (i + 1) = i + 1 from by unfold wrap64; have := HI2.out; have := HS.out; omega], ⟨by have := HI2.out; omega⟩, ⟨by rw [HI1.out]; exact HD2.out⟩, ⟨by rw [HI1.out]; exact Nat.le_refl _⟩, HB⟩
    · have c3b0 : decide (i < (l0.length : Int)) = false := decide_eq_false c3
      have hi : i.toNat = l0.length := by have := HI.out; omega
      have hd := HD.out
      rw [hi, List.drop_length] at hd
      simp only [JY, Option.some.injEq] at hd
      subst hd
      clear HD hi
      go_wp2
      go_ret
      exact ⟨rfl, HB.out⟩
theorem vS (q : Int → Option Bool) (g : Nat) (lb : Array Value) (eg : ∀ args w, (callFunc g args).run Try.prog w = .ok (.enter g args) w) (A0 : Option Addr) (c0 : Nat) (l0 : List Int) (r : Bool) (w : World)
    (hp : Yn g lb q w) (hr0 : Kd.C (Kd.int .i64) w A0 l0.length l0) (hc0 : l0.length ≤ c0) (hs : l0.length ≤ 17592186044416) (h : Jf q l0 = some r) :
    Calls Try.prog 79 #[.slice A0 l0.length c0, .func (.func g) #[] lb] w fun e w' => e = .returned (.bool r) ∧ Below w.heap.size w w' := by
  obtain ⟨m, hm, rfl⟩ := JU q l0 0 r (by decide) h
  have hcall := ZY q g lb eg A0 c0 l0 m
  have HR0 := Aside0.mk hr0
  have HC0 := Aside0.mk hc0
  have HP := Aside0.mk hp
  have H0 := Aside0.mk hm
  have HS := Aside0.mk hs
  clear hr0 hc0 hp h hm hs
  go_enter Try.func79, Try.ntmps79
  go_wp2_with (go_at_call 88; refine (hcall _ HP.out HR0.out HC0.out HS.out H0.out).mono ?_; rintro e w' ⟨rfl, hb⟩)
  go_ret
  exact ⟨rfl, hb⟩
end Go.Proofs.Ytkmcefhchhahhaa.F
end
section
namespace Go.Proofs.Ytkmcefhchhahhaa.F
open Go.RowKit Go.Proofs.YtkmcefhchhahhaaW.PrintWords Go.Proofs.YtkmcefhchhahhaaW.PrintLast Go.Proofs.YtkmcefhchhahhaaW.PrintMore
set_option linter.unusedSimpArgs false
set_option linter.unusedVariables false
/-- Does f put for e make a base of a? -/
def zB.q (k : Nat) (l : List Int) (a e : Int) (x : Int) : Option Bool :=
  if 0 ≤ e then (if 0 ≤ x then vv.f k l (Go.bits .or .i64 (Go.bits .andNot .i64 a (shl .i64 1 e)) (shl .i64 1 x)) else none) else none
mutual
def zB.l0 : Nat → List Int → Int → Option (Int × Int × Int × Bool)
  | 0, _, _ => none
  | k + 1, l, x21 => if x21 < (l.length : Int) then (if 0 ≤ x21 then zB.l1 k l x21 0 else none) else some (0, 0, 0, false)
def zB.l1 : Nat → List Int → Int → Int → Option (Int × Int × Int × Bool)
  | 0, _, _, _ => none
  | k + 1, l, x21, x28 => if x28 < (l.length : Int) then (if 0 ≤ x28 then ((zT.f k (Go.bits .andNot .i64 (rd l x21) (rd l x28))).bind fun es => zB.l2 k l x21 x28 es 0) else none) else zB.l0 k l (wrap64 (x21 + 1))
def zB.l2 : Nat → List Int → Int → Int → List Int → Int → Option (Int × Int × Int × Bool)
  | 0, _, _, _, _, _ => none
  | k + 1, l, x21, x28, es, x37 =>
    if x37 < (es.length : Int) then
      (if 0 ≤ x37 then ((zT.f k (Go.bits .andNot .i64 (rd l x28) (rd l x21))).bind fun fs => (if fs.length ≤ 17592186044416 then ((Jf (zB.q k l (rd l x21) (rd es x37)) fs).bind fun t =>
        if t = true then zB.l2 k l x21 x28 es (wrap64 (x37 + 1)) else some (rd l x21, rd l x28, rd es x37, true)) else none)) else none)
    else zB.l1 k l x21 (wrap64 (x28 + 1))
end
def zB.f (k : Nat) (a0_0 : Int) (l0_1 : List Int) : Option (Int × Int × Int × Bool) :=
  (zY.f k a0_0 l0_1).bind fun t => if t = true then zB.l0 k l0_1 0 else some (0, 0, 0, false)
theorem zB.pred (k : Nat) (l : List Int) (a e n : Int) (A : Option Addr) (c gm ga ge : Nat) (w : World) (hm : w.heap[gm]? = some (.cells #[.int .i64 n, .slice A l.length c] 26 (0, 0)))
    (ha : w.heap[ga]? = some (.cells #[.int .i64 a] 3 (0, 0))) (he : w.heap[ge]? = some (.cells #[.int .i64 e] 3 (0, 0))) (hr : Kd.C (Kd.int .i64) w A l.length l) (hc : l.length ≤ c) :
    Yn 80 #[.pointer (some ⟨gm, 0, none⟩), .pointer (some ⟨ga, 0, none⟩), .pointer (some ⟨ge, 0, none⟩)] (zB.q k l a e) w := by
  intro W x r hq hb
  unfold zB.q at hq
  by_cases h0 : 0 ≤ e
  · rw [if_pos h0] at hq
    by_cases h1 : 0 ≤ x
    · rw [if_pos h1] at hq
      have hc0 : W.cell? ⟨gm, 1, none⟩ = some (.slice A l.length c) := (zh (zj hm hb) 1).trans rfl
      have hc1 : W.cell? ⟨ga, 0, none⟩ = some (.int .i64 a) := (zh (zj ha hb) 0).trans rfl
      have hc2 : W.cell? ⟨ge, 0, none⟩ = some (.int .i64 e) := (zh (zj he hb) 0).trans rfl
      have HR := Aside0.mk (Kd.zG hr hb)
      have HC := Aside0.mk hc
      have hu := Try.underlying26
      obtain ⟨j1, hj1⟩ : ∃ j_ : Int, (shl .i64 1 e) = j_ := ⟨_, rfl⟩
      obtain ⟨j2, hj2⟩ : ∃ j_ : Int, (shl .i64 1 x) = j_ := ⟨_, rfl⟩
      rw [hj1, hj2] at hq
      have H := Aside0.mk hq
      clear hq hm ha he hr hc hb
      have hj1_ : (IntKind.i64.wrap (1 * 2 ^ min e.toNat 64)) = j1 := hj1
      have hj1u : (IntKind.i64.wrap (2 ^ min e.toNat 64)) = j1 := by have h_ := hj1_; rw [Int.one_mul] at h_; exact h_
      have hj1y : (wrap64 (1 * 2 ^ min e.toNat 64)) = j1 := (zm _).symm.trans hj1_
      have hj2_ : (IntKind.i64.wrap (1 * 2 ^ min x.toNat 64)) = j2 := hj2
      have hj2u : (IntKind.i64.wrap (2 ^ min x.toNat 64)) = j2 := by have h_ := hj2_; rw [Int.one_mul] at h_; exact h_
      have hj2y : (wrap64 (1 * 2 ^ min x.toNat 64)) = j2 := (zm _).symm.trans hj2_
      have c0b0 : decide (0 ≤ e) = true := decide_eq_true h0
      have c1b0 : decide (0 ≤ x) = true := decide_eq_true h1
      replace h0 := eq_true h0
      replace h1 := eq_true h1
      go_enter Try.func80, Try.ntmps80
      go_wp2
      repeat (go_quiet ((go_at_call 81; (try simp only [zm, zn]); (with_reducible refine (vv.calls k _ _ l _ r _ ?side1 HC.out H.out).mono ?_); (case side1 => repeat (first | exact HR.out | (with_reducible refine Kd.zH ?_ _) | (with_reducible refine Kd.zP ?_))); rintro e w' ⟨rfl, ⟨nd, rfl⟩⟩; (try first | exact ⟨rfl, _, World.drewN_drewN _ _ _⟩ | exact ⟨rfl, _, Eq.trans (World.drewN_drewN _ _ _) (congrArg (World.drewN _) (Nat.add_assoc _ _ _))⟩))); try go_wp2)
      go_ret
      exact ⟨rfl, by repeat (first | exact Below.refl _ _ | apply zb | apply za)⟩
    · rw [if_neg h1] at hq; exact absurd hq (by simp)
  · rw [if_neg h0] at hq; exact absurd hq (by simp)
theorem zB.calls (k : Nat) (a0_0 : Int) (A0_1 : Option Addr) (c0_1 : Nat) (l0_1 : List Int) (r1 : Int) (r2 : Int) (r3 : Int) (r4 : Bool) (w : World) (hr0_1 : Kd.C (Kd.int .i64) w A0_1 l0_1.length l0_1) (hc0_1 : l0_1.length ≤ c0_1) (h : zB.f k a0_0 l0_1 = some (r1, r2, r3, r4)) :
    Calls Try.prog 66 #[.agg #[.int .i64 a0_0, .slice A0_1 l0_1.length c0_1]] w fun e w' => e = .returned (.tuple #[.agg #[.int .i64 r1, .int .i64 r2, .int .i64 r3], .bool r4]) ∧ Below w.heap.size w w' := by
  have hum := Try.underlying26
  have huf := Try.underlying58
  have HR := Aside0.mk hr0_1
  have HC := Aside0.mk hc0_1
  have HB := Aside0.mk (Below.refl w.heap.size w)
  clear hr0_1 hc0_1
  unfold zB.f at h
  obtain ⟨t0, ht0, h⟩ := Option.bind_eq_some_iff.mp h
  have HT := Aside0.mk ht0
  clear ht0
  have H := Aside0.mk h
  clear h
  cases t0 with
  | false =>
    go_enter Try.func66, Try.ntmps66
    go_wp2_with (first
      | ((with_reducible refine zD (N := 1) rfl ?_); refine zA ?hg (N := 1) ?hd (cs := #[.int .i64 a0_0, .slice A0_1 l0_1.length c0_1]) (t := 26) ?hr ?_; (case hd => rfl); (case hg => rfl); (case hr => first | (go_simp; done) | (go_simp; rfl)); intro gm hg w4 hbox hb; have HB1 := Aside0.mk hb; have BKm := Aside0.mk hbox; have HG1 := Aside0.mk hg; clear hb hbox hg)
      | ((with_reducible refine zD (N := 2) rfl ?_); refine zA ?hg (N := 2) ?hd (cs := #[.int .i64 0, .int .i64 0, .int .i64 0]) (t := 58) ?hr ?_; (case hd => rfl); (case hg => rfl); (case hr => first | (go_simp; done) | (go_simp; rfl)); intro gr hg w5 hbox hb; have HG2 := Aside0.mk hg; have HGr := Aside0.mk (show w.heap.size ≤ gr from by rw [hg]; exact HB1.out.size); have HNE := Aside0.mk (show gm ≠ gr from by rw [hg]; exact Nat.ne_of_lt (zM BKm.out)); have HS := Aside0.mk (FFS.mk (n := a0_0) (A := A0_1) (c := c0_1) (l := l0_1) (gm := gm) (gr := gr) (w0 := w) (zj BKm.out hb) hbox (Kd.zG HR.out (zl HB1.out hb)) (zl HB1.out hb)); clear BKm HB1 hb hbox hg; have hcz0 : w5.cell? ⟨gm, 0, none⟩ = some (.int .i64 a0_0) := (zh HS.out.m 0).trans rfl; have hcz1 : w5.cell? ⟨gm, 1, none⟩ = some (.slice A0_1 l0_1.length c0_1) := (zh HS.out.m 1).trans rfl)
      | ((with_reducible refine zo (f := 67) rfl ?_); refine zL (some 15) rfl rfl Try.func67 (by kernel_rfl) rfl #[.int .i64 a0_0, .slice A0_1 l0_1.length c0_1] rfl (by (try simp only [List.map_toArray, List.map_cons, List.map_nil]); first | done | rfl) ?_; (with_reducible refine (zY.calls k a0_0 _ _ l0_1 false _ HS.out.C HC.out HT.out).mono ?_); rintro e w' ⟨rfl, ⟨nd, rfl⟩⟩; refine ⟨_, rfl, ?_⟩; generalize hw6 : w5.drewN nd = w6; have HS6 := Aside0.mk (HS.out.below (w2 := w6) (by rw [← hw6]; exact za (Below.refl _ _) nd)); clear hw6 HS hcz0 hcz1; have HS := HS6; clear HS6; have hne := HNE.out; have hne2 := HNE.out.symm; have hcr0 : w6.cell? ⟨gr, 0, none⟩ = some (.int .i64 0) := (zh HS.out.r 0).trans rfl; have hcr1 : w6.cell? ⟨gr, 1, none⟩ = some (.int .i64 0) := (zh HS.out.r 1).trans rfl; have hcr2 : w6.cell? ⟨gr, 2, none⟩ = some (.int .i64 0) := (zh HS.out.r 2).trans rfl; have hfr0 := zi HS.out.r 0; have hfr1 := zi HS.out.r 1; have hfr2 := zi HS.out.r 2))
    refine bodyPost_ret (jP rfl _ _ gr 58 #[.int .i64 0, .int .i64 0, .int .i64 0] (0, 0) _ rfl (by refine zV (cs := #[.int .i64 0, .int .i64 0, .int .i64 0]) ?_ 2 _ rfl; refine zV (cs := #[.int .i64 0, .int .i64 0, .int .i64 0]) ?_ 1 _ rfl; refine zV (cs := #[.int .i64 0, .int .i64 0, .int .i64 0]) ?_ 0 _ rfl; exact HS.out.r) Try.underlying58 rfl (by kernel_rfl)) rfl ?_
    have hh := H.out
    simp only [Bool.false_eq_true, if_false, Option.some.injEq, Prod.mk.injEq] at hh
    obtain ⟨rfl, rfl, rfl, rfl⟩ := hh
    exact ⟨rfl, by repeat (first | exact HS.out.B | refine zd ?_ HGr.out)⟩
  | true =>
    go_enter Try.func66, Try.ntmps66
    go_wp2_with (first
      | ((with_reducible refine zD (N := 1) rfl ?_); refine zA ?hg (N := 1) ?hd (cs := #[.int .i64 a0_0, .slice A0_1 l0_1.length c0_1]) (t := 26) ?hr ?_; (case hd => rfl); (case hg => rfl); (case hr => first | (go_simp; done) | (go_simp; rfl)); intro gm hg w4 hbox hb; have HB1 := Aside0.mk hb; have BKm := Aside0.mk hbox; have HG1 := Aside0.mk hg; clear hb hbox hg)
      | ((with_reducible refine zD (N := 2) rfl ?_); refine zA ?hg (N := 2) ?hd (cs := #[.int .i64 0, .int .i64 0, .int .i64 0]) (t := 58) ?hr ?_; (case hd => rfl); (case hg => rfl); (case hr => first | (go_simp; done) | (go_simp; rfl)); intro gr hg w5 hbox hb; have HG2 := Aside0.mk hg; have HGr := Aside0.mk (show w.heap.size ≤ gr from by rw [hg]; exact HB1.out.size); have HNE := Aside0.mk (show gm ≠ gr from by rw [hg]; exact Nat.ne_of_lt (zM BKm.out)); have HS := Aside0.mk (FFS.mk (n := a0_0) (A := A0_1) (c := c0_1) (l := l0_1) (gm := gm) (gr := gr) (w0 := w) (zj BKm.out hb) hbox (Kd.zG HR.out (zl HB1.out hb)) (zl HB1.out hb)); clear BKm HB1 hb hbox hg; have hcz0 : w5.cell? ⟨gm, 0, none⟩ = some (.int .i64 a0_0) := (zh HS.out.m 0).trans rfl; have hcz1 : w5.cell? ⟨gm, 1, none⟩ = some (.slice A0_1 l0_1.length c0_1) := (zh HS.out.m 1).trans rfl)
      | ((with_reducible refine zo (f := 67) rfl ?_); refine zL (some 15) rfl rfl Try.func67 (by kernel_rfl) rfl #[.int .i64 a0_0, .slice A0_1 l0_1.length c0_1] rfl (by (try simp only [List.map_toArray, List.map_cons, List.map_nil]); first | done | rfl) ?_; (with_reducible refine (zY.calls k a0_0 _ _ l0_1 true _ HS.out.C HC.out HT.out).mono ?_); rintro e w' ⟨rfl, ⟨nd, rfl⟩⟩; refine ⟨_, rfl, ?_⟩; generalize hw6 : w5.drewN nd = w6; have HS6 := Aside0.mk (HS.out.below (w2 := w6) (by rw [← hw6]; exact za (Below.refl _ _) nd)); clear hw6 HS hcz0 hcz1; have HS := HS6; clear HS6; have hcz1 : w6.cell? ⟨gm, 1, none⟩ = some (.slice A0_1 l0_1.length c0_1) := (zh HS.out.m 1).trans rfl))
    have H0 := Aside0.mk (show zB.l0 k l0_1 0 = some (r1, r2, r3, r4) by have hh := H.out; simpa using hh)
    clear H hcz1
    go_loopg [21] k (fun kq v21 w' => ∃ (x21 : Int), v21 = .int .i64 x21 ∧ Aside0 (zB.l0 kq l0_1 x21 = some (r1, r2, r3, r4)) ∧ Aside0 (kq ≤ k) ∧ Aside0 (FFS w w' gm gr a0_0 A0_1 c0_1 l0_1))
    case atStart => exact ⟨0, rfl, H0, ⟨Nat.le_refl _⟩, HS⟩
    case round =>
      clear H0 HS HB HG1 HG2
      obtain ⟨x21, rfl, HA, HK1, HS⟩ := hrel
      cases gk with
      | zero => exact absurd HA.out (by simp [zB.l0])
      | succ k1 =>
        have H := HA.out
        clear HA
        simp only [zB.l0] at H
        by_cases c1 : x21 < (l0_1.length : Int)
        · rw [if_pos c1] at H
          by_cases c2 : 0 ≤ x21
          · rw [if_pos c2] at H
            have H1 := Aside0.mk H
            clear H
            have c1b0 : decide (x21 < (l0_1.length : Int)) = true := decide_eq_true c1
            have c2b0 : decide (0 ≤ x21) = true := decide_eq_true c2
            obtain ⟨ad1, e1, hx1⟩ := Kd.qd HS.out.C x21 c2 c1
            cases e1
            replace c1 := eq_true c1
            replace c2 := eq_true c2
            have hcz1 : wr.cell? ⟨gm, 1, none⟩ = some (.slice (some ad1) l0_1.length c0_1) := (zh HS.out.m 1).trans rfl
            go_wp2_with (first
              | ((with_reducible refine zD (N := 5) rfl ?_); refine zA ?hg (N := 5) ?hd (cs := #[.int .i64 0]) (t := 3) ?hr ?_; (case hd => rfl); (case hg => rfl); (case hr => first | (go_simp; done) | (go_simp; rfl)); intro ga hg w7 hbox hb; have HG3 := Aside0.mk hg; have BKa := Aside0.mk hbox; have HBa := Aside0.mk hb; have hca : w7.cell? ⟨ga, 0, none⟩ = some (.int .i64 0) := (zh BKa.out 0).trans rfl; have hfa := zi BKa.out 0; clear hg hbox hb hx1 hcz1)
              | ((with_reducible refine vW (t := 3) (p := 5) rfl ?_); refine vH (t := 3) (p := 5) (v := ?vo_w8) (w1 := (w7.setCell ⟨ga, 0, none⟩ (.int .i64 (rd l0_1 x21)))) ?hg ?ho ?hn ?hr ?_; (case ho => rfl); (case hg => rfl); (case hn => rfl); (case hr => first | (go_simp; done) | (go_simp; rfl)); intro w8 hw; have hp_ := Jl (v := .int .i64 (rd l0_1 x21)) HG3.out BKa.out HBa.out; rw [← hw] at hp_; have HS8 := Aside0.mk (HS.out.below hp_.2); have BK8 := Aside0.mk hp_.1; clear hp_ hw BKa HBa HG3 HS hca hfa; have HS := HS8; have BKa := BK8; clear HS8 BK8; have hcz1 : w8.cell? ⟨gm, 1, none⟩ = some (.slice (some ad1) l0_1.length c0_1) := (zh HS.out.m 1).trans rfl))
            clear hcz1
            go_loopg [28] k1 (fun kq v28 w' => ∃ (x28 : Int), v28 = .int .i64 x28 ∧ Aside0 (zB.l1 kq l0_1 x21 x28 = some (r1, r2, r3, r4)) ∧ Aside0 (kq ≤ k1) ∧ Aside0 (FFS w w' gm gr a0_0 (some ad1) c0_1 l0_1) ∧ Aside0 (w'.heap[ga]? = some (.cells #[.int .i64 (rd l0_1 x21)] 3 (0, 0))))
            case atStart => exact ⟨0, rfl, H1, ⟨Nat.le_refl _⟩, HS, BKa⟩
            case round =>
              clear H1 HS BKa
              obtain ⟨x28, rfl, HA, HK2, HS, BKa⟩ := hrel
              cases gk with
              | zero => exact absurd HA.out (by simp [zB.l1])
              | succ k2 =>
                have H := HA.out
                clear HA
                simp only [zB.l1] at H
                by_cases c3 : x28 < (l0_1.length : Int)
                · rw [if_pos c3] at H
                  by_cases c4 : 0 ≤ x28
                  · rw [if_pos c4] at H
                    obtain ⟨es, hes, H⟩ := Option.bind_eq_some_iff.mp H
                    have H1 := Aside0.mk H
                    have HE := Aside0.mk hes
                    clear H hes
                    have c3b0 : decide (x28 < (l0_1.length : Int)) = true := decide_eq_true c3
                    have c4b0 : decide (0 ≤ x28) = true := decide_eq_true c4
                    obtain ⟨ad2, e2, hx2⟩ := Kd.qd HS.out.C x28 c4 c3
                    cases e2
                    replace c3 := eq_true c3
                    replace c4 := eq_true c4
                    have hca : wr.cell? ⟨ga, 0, none⟩ = some (.int .i64 (rd l0_1 x21)) := (zh BKa.out 0).trans rfl
                    go_wp2_with ((with_reducible refine zo (f := 76) rfl ?_); refine zL (some 35) rfl rfl Try.func76 (by kernel_rfl) rfl #[.int .i64 (Go.bits .andNot .i64 (rd l0_1 x21) (rd l0_1 x28))] rfl (by (try simp only [List.map_toArray, List.map_cons, List.map_nil]); first | done | rfl) ?_; (with_reducible refine (zT.calls k2 _ es _ HE.out).mono ?_); rintro e w9 ⟨ve, rfl, ho, hb⟩; refine ⟨_, rfl, ?_⟩; obtain ⟨Ae, ce, ee⟩ := Kd.qo ho; subst ee; have HCE := Aside0.mk (Kd.zS ho).2.2; have HLE := Aside0.mk (Kd.zS ho).2.1; have HS9 := Aside0.mk (HS.out.below hb); have BK9 := Aside0.mk (zj BKa.out hb); clear ho hb HS BKa hx2 hca; have HS := HS9; have BKa := BK9; clear HS9 BK9)
                    go_loopg [37] k2 (fun kq v37 w' => ∃ (x37 : Int), v37 = .int .i64 x37 ∧ Aside0 (zB.l2 kq l0_1 x21 x28 es x37 = some (r1, r2, r3, r4)) ∧ Aside0 (kq ≤ k2) ∧ Aside0 (FFS w w' gm gr a0_0 (some ad1) c0_1 l0_1) ∧ Aside0 (w'.heap[ga]? = some (.cells #[.int .i64 (rd l0_1 x21)] 3 (0, 0))) ∧ Aside0 (Kd.C (Kd.int .i64) w' Ae es.length es))
                    case atStart => exact ⟨0, rfl, H1, ⟨Nat.le_refl _⟩, HS, BKa, HCE⟩
                    case round =>
                      clear H1 HS BKa HCE HE
                      obtain ⟨x37, rfl, HA, HK3, HS, BKa, HCE⟩ := hrel
                      cases gk with
                      | zero => exact absurd HA.out (by simp [zB.l2])
                      | succ k3 =>
                        have H := HA.out
                        clear HA
                        simp only [zB.l2] at H
                        by_cases c5 : x37 < (es.length : Int)
                        · rw [if_pos c5] at H
                          by_cases c6 : 0 ≤ x37
                          · rw [if_pos c6] at H
                            obtain ⟨fs, hfs, H⟩ := Option.bind_eq_some_iff.mp H
                            by_cases c7 : fs.length ≤ 17592186044416
                            · rw [if_pos c7] at H
                              obtain ⟨tt, htt, H⟩ := Option.bind_eq_some_iff.mp H
                              have HF := Aside0.mk hfs
                              have HLF := Aside0.mk c7
                              have HAny := Aside0.mk htt
                              have H1 := Aside0.mk H
                              clear H hfs c7 htt
                              have c5b0 : decide (x37 < (es.length : Int)) = true := decide_eq_true c5
                              have c6b0 : decide (0 ≤ x37) = true := decide_eq_true c6
                              obtain ⟨ad3, e3, hx3⟩ := Kd.qd HCE.out x37 c6 c5
                              cases e3
                              replace c5 := eq_true c5
                              replace c6 := eq_true c6
                              cases tt with
                              | true =>
                                go_wp2_with (first
                                  | ((with_reducible refine zD (N := 9) rfl ?_); refine zA ?hg (N := 9) ?hd (cs := #[.int .i64 0]) (t := 3) ?hr ?_; (case hd => rfl); (case hg => rfl); (case hr => first | (go_simp; done) | (go_simp; rfl)); intro ge hg w10 hbox hb; have HG4 := Aside0.mk hg; have BKe := Aside0.mk hbox; have HBe := Aside0.mk hb; have hce : w10.cell? ⟨ge, 0, none⟩ = some (.int .i64 0) := (zh BKe.out 0).trans rfl; have hfe := zi BKe.out 0; clear hg hbox hb hx3)
                                  | ((with_reducible refine vW (t := 3) (p := 9) rfl ?_); refine vH (t := 3) (p := 9) (v := ?vo_w11) (w1 := (w10.setCell ⟨ge, 0, none⟩ (.int .i64 (rd es x37)))) ?hg ?ho ?hn ?hr ?_; (case ho => rfl); (case hg => rfl); (case hn => rfl); (case hr => first | (go_simp; done) | (go_simp; rfl)); intro w11 hw; have hp_ := Jl (v := .int .i64 (rd es x37)) HG4.out BKe.out HBe.out; rw [← hw] at hp_; have HS8 := Aside0.mk (HS.out.below hp_.2); have BK8 := Aside0.mk hp_.1; have BK7 := Aside0.mk (zj BKa.out hp_.2); have HC8 := Aside0.mk (Kd.zG HCE.out hp_.2); clear hp_ hw BKe HBe HG4 HS hce hfe BKa HCE; have HS := HS8; have BKe := BK8; have BKa := BK7; have HCE := HC8; clear HS8 BK8 BK7 HC8; have hca : w11.cell? ⟨ga, 0, none⟩ = some (.int .i64 (rd l0_1 x21)) := (zh BKa.out 0).trans rfl)
                                  | ((with_reducible refine zo (f := 76) rfl ?_); refine zL (some 44) rfl rfl Try.func76 (by kernel_rfl) rfl #[.int .i64 (Go.bits .andNot .i64 (rd l0_1 x28) (rd l0_1 x21))] rfl (by (try simp only [List.map_toArray, List.map_cons, List.map_nil]); first | done | rfl) ?_; (with_reducible refine (zT.calls k3 _ fs _ HF.out).mono ?_); rintro e w12 ⟨vf, rfl, ho, hb⟩; refine ⟨_, rfl, ?_⟩; obtain ⟨Af, cf, ef⟩ := Kd.qo ho; subst ef; have HCF := Aside0.mk (Kd.zS ho).2.2; have HLF2 := Aside0.mk (Kd.zS ho).2.1; have HS8 := Aside0.mk (HS.out.below hb); have BK8 := Aside0.mk (zj BKe.out hb); have BK7 := Aside0.mk (zj BKa.out hb); have HC8 := Aside0.mk (Kd.zG HCE.out hb); clear ho hb BKe HS BKa HCE hca; have HS := HS8; have BKe := BK8; have BKa := BK7; have HCE := HC8; clear HS8 BK8 BK7 HC8))
                                refine (vS (zB.q k3 l0_1 (rd l0_1 x21) (rd es x37)) _ _ (enters_of Try.func80 (by kernel_rfl) rfl) _ _ fs true _ (zB.pred k3 l0_1 (rd l0_1 x21) (rd es x37) a0_0 _ c0_1 gm ga ge _ HS.out.m BKa.out BKe.out HS.out.C HC.out) HCF.out HLF2.out HLF.out HAny.out).mono ?_
                                rintro e w13 ⟨rfl, hb⟩
                                have HS8 := Aside0.mk (HS.out.below hb)
                                have BK8 := Aside0.mk (zj BKe.out hb)
                                have BK7 := Aside0.mk (zj BKa.out hb)
                                have HC8 := Aside0.mk (Kd.zG HCE.out hb)
                                clear hb BKe HS BKa HCE HCF
                                have HS := HS8
                                have BKe := BK8
                                have BKa := BK7
                                have HCE := HC8
                                clear HS8 BK8 BK7 HC8
                                go_wp2
                                go_roundg k3
                                case measure => have := HK1.out; have := HK2.out; have := HK3.out; omega
                                case rel => exact ⟨wrap64 (x37 + 1), rfl, ⟨by have hh := H1.out; simpa using hh⟩, ⟨by have := HK3.out; omega⟩, HS, BKa, HCE⟩
                              | false =>
                                have hh := H1.out
                                simp only [Bool.false_eq_true, if_false, Option.some.injEq, Prod.mk.injEq] at hh
                                obtain ⟨rfl, rfl, rfl, rfl⟩ := hh
                                clear H1
                                have hne := HNE.out
                                have hne2 := HNE.out.symm
                                go_wp2_with (first
                                  | ((with_reducible refine zD (N := 9) rfl ?_); refine zA ?hg (N := 9) ?hd (cs := #[.int .i64 0]) (t := 3) ?hr ?_; (case hd => rfl); (case hg => rfl); (case hr => first | (go_simp; done) | (go_simp; rfl)); intro ge hg w10 hbox hb; have HG4 := Aside0.mk hg; have BKe := Aside0.mk hbox; have HBe := Aside0.mk hb; have hce : w10.cell? ⟨ge, 0, none⟩ = some (.int .i64 0) := (zh BKe.out 0).trans rfl; have hfe := zi BKe.out 0; clear hg hbox hb hx3)
                                  | ((with_reducible refine vW (t := 3) (p := 9) rfl ?_); refine vH (t := 3) (p := 9) (v := ?vo_w11) (w1 := (w10.setCell ⟨ge, 0, none⟩ (.int .i64 (rd es x37)))) ?hg ?ho ?hn ?hr ?_; (case ho => rfl); (case hg => rfl); (case hn => rfl); (case hr => first | (go_simp; done) | (go_simp; rfl)); intro w11 hw; have hp_ := Jl (v := .int .i64 (rd es x37)) HG4.out BKe.out HBe.out; rw [← hw] at hp_; have HS8 := Aside0.mk (HS.out.below hp_.2); have BK8 := Aside0.mk hp_.1; have BK7 := Aside0.mk (zj BKa.out hp_.2); have HC8 := Aside0.mk (Kd.zG HCE.out hp_.2); clear hp_ hw BKe HBe HG4 HS hce hfe BKa HCE; have HS := HS8; have BKe := BK8; have BKa := BK7; have HCE := HC8; clear HS8 BK8 BK7 HC8; have hca : w11.cell? ⟨ga, 0, none⟩ = some (.int .i64 (rd l0_1 x21)) := (zh BKa.out 0).trans rfl)
                                  | ((with_reducible refine zo (f := 76) rfl ?_); refine zL (some 44) rfl rfl Try.func76 (by kernel_rfl) rfl #[.int .i64 (Go.bits .andNot .i64 (rd l0_1 x28) (rd l0_1 x21))] rfl (by (try simp only [List.map_toArray, List.map_cons, List.map_nil]); first | done | rfl) ?_; (with_reducible refine (zT.calls k3 _ fs _ HF.out).mono ?_); rintro e w12 ⟨vf, rfl, ho, hb⟩; refine ⟨_, rfl, ?_⟩; obtain ⟨Af, cf, ef⟩ := Kd.qo ho; subst ef; have HCF := Aside0.mk (Kd.zS ho).2.2; have HLF2 := Aside0.mk (Kd.zS ho).2.1; have HS8 := Aside0.mk (HS.out.below hb); have BK8 := Aside0.mk (zj BKe.out hb); have BK7 := Aside0.mk (zj BKa.out hb); have HC8 := Aside0.mk (Kd.zG HCE.out hb); clear ho hb BKe HS BKa HCE hca; have HS := HS8; have BKe := BK8; have BKa := BK7; have HCE := HC8; clear HS8 BK8 BK7 HC8))
                                refine (vS (zB.q k3 l0_1 (rd l0_1 x21) (rd es x37)) _ _ (enters_of Try.func80 (by kernel_rfl) rfl) _ _ fs false _ (zB.pred k3 l0_1 (rd l0_1 x21) (rd es x37) a0_0 _ c0_1 gm ga ge _ HS.out.m BKa.out BKe.out HS.out.C HC.out) HCF.out HLF2.out HLF.out HAny.out).mono ?_
                                rintro e w13 ⟨rfl, hb⟩
                                have HS8 := Aside0.mk (HS.out.below hb)
                                have BK8 := Aside0.mk (zj BKe.out hb)
                                have BK7 := Aside0.mk (zj BKa.out hb)
                                have HC8 := Aside0.mk (Kd.zG HCE.out hb)
                                clear hb BKe HS BKa HCE HCF
                                have HS := HS8
                                have BKe := BK8
                                have BKa := BK7
                                have HCE := HC8
                                clear HS8 BK8 BK7 HC8
                                have hca : w13.cell? ⟨ga, 0, none⟩ = some (.int .i64 (rd l0_1 x21)) := (zh BKa.out 0).trans rfl
                                have hce : w13.cell? ⟨ge, 0, none⟩ = some (.int .i64 (rd es x37)) := (zh BKe.out 0).trans rfl
                                have hcr0 : w13.cell? ⟨gr, 0, none⟩ = some (.int .i64 0) := (zh HS.out.r 0).trans rfl
                                have hcr1 : w13.cell? ⟨gr, 1, none⟩ = some (.int .i64 0) := (zh HS.out.r 1).trans rfl
                                have hcr2 : w13.cell? ⟨gr, 2, none⟩ = some (.int .i64 0) := (zh HS.out.r 2).trans rfl
                                have hfr0 := zi HS.out.r 0
                                have hfr1 := zi HS.out.r 1
                                have hfr2 := zi HS.out.r 2
                                go_wp2
                                refine bodyPost_ret (jP rfl _ _ gr 58 #[.int .i64 (rd l0_1 x21), .int .i64 (rd l0_1 x28), .int .i64 (rd es x37)] (0, 0) _ rfl (by refine zV (cs := #[.int .i64 (rd l0_1 x21), .int .i64 (rd l0_1 x28), .int .i64 0]) ?_ 2 _ rfl; refine zV (cs := #[.int .i64 (rd l0_1 x21), .int .i64 0, .int .i64 0]) ?_ 1 _ rfl; refine zV (cs := #[.int .i64 0, .int .i64 0, .int .i64 0]) ?_ 0 _ rfl; exact HS.out.r) Try.underlying58 rfl (by kernel_rfl)) rfl ?_
                                exact ⟨rfl, by repeat (first | exact HS.out.B | refine zd ?_ HGr.out)⟩
                            · rw [if_neg c7] at H
                              exact absurd H (by simp)
                          · rw [if_neg c6] at H
                            exact absurd H (by simp)
                        · rw [if_neg c5] at H
                          have H1 := Aside0.mk H
                          clear H
                          have c5b0 : decide (x37 < (es.length : Int)) = false := decide_eq_false c5
                          clear c5
                          go_wp2
                          go_roundg k3
                          case measure => have := HK1.out; have := HK2.out; have := HK3.out; omega
                          case rel => exact ⟨wrap64 (x28 + 1), rfl, H1, ⟨by have := HK2.out; have := HK3.out; omega⟩, HS, BKa⟩
                  · rw [if_neg c4] at H
                    exact absurd H (by simp)
                · rw [if_neg c3] at H
                  have H1 := Aside0.mk H
                  clear H
                  have c3b0 : decide (x28 < (l0_1.length : Int)) = false := decide_eq_false c3
                  clear c3
                  go_wp2
                  go_roundg k2
                  case measure => have := HK1.out; have := HK2.out; omega
                  case rel => exact ⟨wrap64 (x21 + 1), rfl, H1, ⟨by have := HK1.out; have := HK2.out; omega⟩, HS⟩
          · rw [if_neg c2] at H
            exact absurd H (by simp)
        · rw [if_neg c1] at H
          simp only [Option.some.injEq, Prod.mk.injEq] at H
          obtain ⟨rfl, rfl, rfl, rfl⟩ := H
          have c1b0 : decide (x21 < (l0_1.length : Int)) = false := decide_eq_false c1
          clear c1
          have hne := HNE.out
          have hne2 := HNE.out.symm
          have hcr0 : wr.cell? ⟨gr, 0, none⟩ = some (.int .i64 0) := (zh HS.out.r 0).trans rfl
          have hcr1 : wr.cell? ⟨gr, 1, none⟩ = some (.int .i64 0) := (zh HS.out.r 1).trans rfl
          have hcr2 : wr.cell? ⟨gr, 2, none⟩ = some (.int .i64 0) := (zh HS.out.r 2).trans rfl
          have hfr0 := zi HS.out.r 0
          have hfr1 := zi HS.out.r 1
          have hfr2 := zi HS.out.r 2
          go_wp2
          refine bodyPost_ret (jP rfl _ _ gr 58 #[.int .i64 0, .int .i64 0, .int .i64 0] (0, 0) _ rfl (by refine zV (cs := #[.int .i64 0, .int .i64 0, .int .i64 0]) ?_ 2 _ rfl; refine zV (cs := #[.int .i64 0, .int .i64 0, .int .i64 0]) ?_ 1 _ rfl; refine zV (cs := #[.int .i64 0, .int .i64 0, .int .i64 0]) ?_ 0 _ rfl; exact HS.out.r) Try.underlying58 rfl (by kernel_rfl)) rfl ?_
          exact ⟨rfl, by repeat (first | exact HS.out.B | refine zd ?_ HGr.out)⟩
end Go.Proofs.Ytkmcefhchhahhaa.F
end
