/- Several texts of this session in one: Fx1, Fx4, Fx5. Conditions: as each theorem says. -/
import Derived.Test.YtopkfhnnapncgaaZMatrixRank0
set_option maxHeartbeats 8000000
set_option maxRecDepth 100000
section
namespace Go.Proofs.Ytopkfhnnapncgaa.F
open Go.RowKit Go.Proofs.YtopkfhnnapncgaaW.PrintWords Go.Proofs.YtopkfhnnapncgaaW.PrintLast Go.Proofs.YtopkfhnnapncgaaW.PrintMore
attribute [local go_sem] jP jR vl vm ju jv jO jN   -- for this text's walks alone
set_option linter.unusedVariables false
set_option linter.unusedSimpArgs false

def qV.f (l0 : List Int) (a1 : Int) : Option (Int) := if (wrap64 (a1 - (l0.length : Int))) < 0 then (some (-1)) else (some (wrap64 (a1 - (l0.length : Int))))
theorem qV.calls (A0 : Option Addr) (c0 : Nat) (l0 : List Int) (a1 : Int) (r : Int) (w : World) (hr0 : Kd.C (Kd.int .i64) w A0 l0.length l0) (hc0 : l0.length ≤ c0) (h : qV.f l0 a1 = some r) :
  Calls Try.prog 36 #[.slice A0 l0.length c0, .int .i64 a1] w fun e w' => e = .returned (.int .i64 r) ∧ zn w w' := by
 have HR0 := Aside0.mk hr0
 have HC0 := Aside0.mk hc0
 clear hr0 hc0
 have H : (if (wrap64 (a1 - (l0.length : Int))) < 0 then (some (-1)) else (some (wrap64 (a1 - (l0.length : Int))))) = some r := h
 clear h
 by_cases c3 : (wrap64 (a1 - (l0.length : Int))) < 0
 ·rw [if_pos c3] at H
  have c3b0 : decide ((wrap64 (a1 - (l0.length : Int))) < 0) = true := decide_eq_true c3
  clear c3
  obtain rfl := Option.some.inj H
  go_enter Try.func36, Try.ntmps36
  go_wp2
  go_ret
  exact ⟨sqD, by repeat (first | exact zn.refl _ | apply zn.step)⟩
 ·rw [if_neg c3] at H
  have c3b0 : decide ((wrap64 (a1 - (l0.length : Int))) < 0) = false := decide_eq_false c3
  clear c3
  obtain rfl := Option.some.inj H
  go_enter Try.func36, Try.ntmps36
  go_wp2
  go_ret
  exact ⟨sqD, by repeat (first | exact zn.refl _ | apply zn.step)⟩

def qG.f (a0_0 : Int) (a0_1 : Int) (a0_2 : Int) (l0_3 : List Int) (a1 : Int) : Option (Int) := (qV.f l0_3 a1).bind fun t102 => (if t102 < 0 then (some (-1)) else (some t102))
theorem qG.calls (a0_0 : Int) (a0_1 : Int) (a0_2 : Int) (A0_3 : Option Addr) (c0_3 : Nat) (l0_3 : List Int) (a1 : Int) (r : Int) (w : World) (hr0_3 : Kd.C (Kd.int .i64) w A0_3 l0_3.length l0_3) (hc0_3 : l0_3.length ≤ c0_3) (h : qG.f a0_0 a0_1 a0_2 l0_3 a1 = some r) :
  Calls Try.prog 11 #[.agg #[.int .i64 a0_0, .int .i64 a0_1, .int .i64 a0_2, .slice A0_3 l0_3.length c0_3], .int .i64 a1] w fun e w' => e = .returned (.int .i64 r) ∧ Below w.heap.size w w' := by
 have hu24 := Try.underlying24
 have HR0_3 := Aside0.mk hr0_3
 have HC0_3 := Aside0.mk hc0_3
 clear hr0_3 hc0_3
 have HB := Aside0.mk (Below.refl w.heap.size w)
 have H : ((qV.f l0_3 a1).bind fun t102 => (if t102 < 0 then (some (-1)) else (some t102))) = some r := h
 clear h
 replace H := Option.bind_eq_some_iff.mp H
 obtain ⟨t102, A30, H⟩ := H
 replace H : (if t102 < 0 then (some (-1)) else (some t102)) = some r := H
 have A3 := Aside0.mk A30
 clear A30
 by_cases c4 : t102 < 0
 ·rw [if_pos c4] at H
  have c4b0 : decide (t102 < 0) = true := decide_eq_true c4
  clear c4
  obtain rfl := Option.some.inj H
  go_enter Try.func11, Try.ntmps11
  go_wp2_with (first | ((with_reducible refine zx (N := 2) rfl ?_); refine zy ?hg (N := 2) ?hd (cs := #[.int .i64 a0_0, .int .i64 a0_1, .int .i64 a0_2, .slice A0_3 l0_3.length c0_3]) (t := 24) ?hr ?_; (case hd => rfl); (case hg => rfl); (case hr => exact sqG); intro gb101 hg w5 hbox hb; have n0_ := Aside0.mk (zj sqB hb); have n1_ := Aside0.mk (hbox); have n2_ := Aside0.mk ((sqS hg : w.heap.size ≤ gb101)); have n3_ := Aside0.mk ((sqS hg : w.heap.size ≤ gb101)); clear HB; have HB := n0_; have BK101 := n1_; have GW101 := n2_; have GE101 := n3_; clear n0_ n1_ n2_ n3_; clear hb hbox hg; have hcz6_0 : w5.cell? ⟨gb101, 0, none⟩ = some (.int .i64 a0_0) := (zb BK101.out 0).trans rfl; have hcz6_1 : w5.cell? ⟨gb101, 1, none⟩ = some (.int .i64 a0_1) := (zb BK101.out 1).trans rfl; have hcz6_2 : w5.cell? ⟨gb101, 2, none⟩ = some (.int .i64 a0_2) := (zb BK101.out 2).trans rfl; have hcz6_3 : w5.cell? ⟨gb101, 3, none⟩ = some (.slice A0_3 l0_3.length c0_3) := (zb BK101.out 3).trans rfl; have hfz6_0 := za BK101.out 0; have hfz6_1 := za BK101.out 1; have hfz6_2 := za BK101.out 2; have hfz6_3 := za BK101.out 3) | ((with_reducible refine zt (f := 36) rfl ?_); refine zN (some 8) rfl rfl Try.func36 (by kernel_rfl) rfl #[.slice A0_3 l0_3.length c0_3, .int .i64 a1] rfl sqM ?_; (with_reducible refine (qV.calls _ _ l0_3 a1 t102 _ ?side1 ?side2 A3.out).mono ?_); (case side1 => exact sqC (Kd.z7 HR0_3.out HB.out)); (case side2 => exact HC0_3.out); rintro e w' ⟨rfl, ⟨nd, rfl⟩⟩; refine ⟨_, rfl, ?_⟩))
  go_ret
  exact ⟨sqE, sqB⟩
 ·rw [if_neg c4] at H
  have c4b0 : decide (t102 < 0) = false := decide_eq_false c4
  clear c4
  obtain rfl := Option.some.inj H
  go_enter Try.func11, Try.ntmps11
  go_wp2_with (first | ((with_reducible refine zx (N := 2) rfl ?_); refine zy ?hg (N := 2) ?hd (cs := #[.int .i64 a0_0, .int .i64 a0_1, .int .i64 a0_2, .slice A0_3 l0_3.length c0_3]) (t := 24) ?hr ?_; (case hd => rfl); (case hg => rfl); (case hr => exact sqG); intro gb101 hg w7 hbox hb; have n0_ := Aside0.mk (zj sqB hb); have n1_ := Aside0.mk (hbox); have n2_ := Aside0.mk ((sqS hg : w.heap.size ≤ gb101)); have n3_ := Aside0.mk ((sqS hg : w.heap.size ≤ gb101)); clear HB; have HB := n0_; have BK101 := n1_; have GW101 := n2_; have GE101 := n3_; clear n0_ n1_ n2_ n3_; clear hb hbox hg; have hcz8_0 : w7.cell? ⟨gb101, 0, none⟩ = some (.int .i64 a0_0) := (zb BK101.out 0).trans rfl; have hcz8_1 : w7.cell? ⟨gb101, 1, none⟩ = some (.int .i64 a0_1) := (zb BK101.out 1).trans rfl; have hcz8_2 : w7.cell? ⟨gb101, 2, none⟩ = some (.int .i64 a0_2) := (zb BK101.out 2).trans rfl; have hcz8_3 : w7.cell? ⟨gb101, 3, none⟩ = some (.slice A0_3 l0_3.length c0_3) := (zb BK101.out 3).trans rfl; have hfz8_0 := za BK101.out 0; have hfz8_1 := za BK101.out 1; have hfz8_2 := za BK101.out 2; have hfz8_3 := za BK101.out 3) | ((with_reducible refine zt (f := 36) rfl ?_); refine zN (some 8) rfl rfl Try.func36 (by kernel_rfl) rfl #[.slice A0_3 l0_3.length c0_3, .int .i64 a1] rfl sqM ?_; (with_reducible refine (qV.calls _ _ l0_3 a1 t102 _ ?side1 ?side2 A3.out).mono ?_); (case side1 => exact sqC (Kd.z7 HR0_3.out HB.out)); (case side2 => exact HC0_3.out); rintro e w' ⟨rfl, ⟨nd, rfl⟩⟩; refine ⟨_, rfl, ?_⟩))
  go_ret
  exact ⟨sqE, sqB⟩

def zV.l0 : Nat → List Int → List Int → Int → Option (List Int)
 | 0, _, _, _ => none
 | k + 1, x0, x3, x4 => if x4 < (x0.length : Int) then (if 0 ≤ x4 then (if x4 < (x3.length : Int) then (zV.l0 k x0 (x3.set (x4 : Int).toNat (rd x0 x4)) (wrap64 (x4 + 1))) else (none)) else (none)) else (some x3)
def zV.f (k : Nat) (l0 : List Int) : Option (List Int) := if 0 ≤ (l0.length : Int) then (if ((l0.length : Int) : Int).toNat ≤ 35184372088832 then (zV.l0 k l0 (List.replicate ((l0.length : Int) : Int).toNat 0) 0) else (none)) else (none)
theorem zV.calls (k : Nat) (A0 : Option Addr) (c0 : Nat) (l0 : List Int) (r : List Int) (w : World) (hr0 : Kd.C (Kd.int .i64) w A0 l0.length l0) (hc0 : l0.length ≤ c0) (h : zV.f k l0 = some r) :
  Calls Try.prog 38 #[.slice A0 l0.length c0] w fun e w' => ∃ v0_ : Value, e = .returned (v0_) ∧ Kd.R (Kd.int .i64) 3 w' w.heap.size (fun _ => True) v0_ r ∧ Below w.heap.size w w' := by
 have HR0 := Aside0.mk hr0
 have HC0 := Aside0.mk hc0
 clear hr0 hc0
 have HB := Aside0.mk (Below.refl w.heap.size w)
 have H : (if 0 ≤ (l0.length : Int) then (if ((l0.length : Int) : Int).toNat ≤ 35184372088832 then (zV.l0 k l0 (List.replicate ((l0.length : Int) : Int).toNat 0) 0) else (none)) else (none)) = some r := h
 clear h
 by_cases c2 : 0 ≤ (l0.length : Int)
 ·rw [if_pos c2] at H
  have c2b0 := eq_true c2
  have c2b1 : decide (0 ≤ (l0.length : Int)) = true := decide_eq_true c2
  clear c2
  by_cases c3 : ((l0.length : Int) : Int).toNat ≤ 35184372088832
  ·rw [if_pos c3] at H
   have c3b0 := eq_true c3
   have c3b1 : decide (((l0.length : Int) : Int).toNat ≤ 35184372088832) = true := decide_eq_true c3
   clear c3
   obtain ⟨y103, hy103⟩ : ∃ y_ : List Int, y_ = (List.replicate ((l0.length : Int) : Int).toNat 0) := ⟨_, rfl⟩
   replace H : (zV.l0 k l0 y103 0) = some r := by first | (rw [hy103]; with_reducible exact H) | (have H2_ := (Option.bind_some _ _).symm.trans H; rw [hy103]; with_reducible exact H2_) | (have H2_ := (Option.bind_some _ _).symm.trans H; with_reducible exact H2_) | with_reducible exact H | (rw [hy103]; exact H) | exact H
   have Ny103 := Aside0.mk hy103
   clear hy103
   have H' := Aside0.mk H
   clear H
   go_enter Try.func38, Try.ntmps38
   go_wp2_with (first | ((with_reducible refine zx (N := 7) rfl ?_); refine Kd.Y1 (Kd.int .i64) _ 3 rfl (N := 7) rfl 22 _ _ rfl (l0.length : Int) rfl rfl Try.underlying22 (.int .i64 0) 8 vU rfl (by decide) (by omega) 0 (ok := fun _ => True) (okp := fun _ => True) rfl (fun _ hk => hk) trivial (of_decide_eq_true sqA) (Nat.le_trans (Nat.mul_le_mul_right _ (of_decide_eq_true sqA : (l0.length : Int).toNat ≤ 35184372088832)) (by omega)) (Below.refl _ _) (Nat.le_refl _) ?_; intro v104 w4 ho5 hb hg_ hnew_; clear hg_ hnew_; (first | rw [← Ny103.out] at ho5 | (simp only [Int.reduceToNat] at ho5; rw [← Ny103.out] at ho5)); have n0_ := Aside0.mk (Kd.qE ho5 (zI sqB)); have n1_ := Aside0.mk (zj sqB hb); clear HB; have HO105 := n0_; have HB := n1_; clear n0_ n1_; clear hb ho5))
   go_loopg [4] k (fun kq v4 w' => ∃ (x3_1 : List Int) (x4_1 : Int), v4 = .int .i64 x4_1 ∧ Aside0 (zV.l0 kq l0 x3_1 x4_1 = some r) ∧ Aside0 (kq ≤ k) ∧ Aside0 (Kd.R (Kd.int .i64) 3 w' w.heap.size (fun _ => True) v104 x3_1) ∧ Aside0 (Below w.heap.size w w'))
   case atStart => exact ⟨(y103), (0), (sqD), H', ⟨Nat.le_refl _⟩, ⟨sqR HO105.out⟩, ⟨sqB⟩⟩
   case round =>
    clear H'
    try clear c2
    try clear c2b0
    try clear c2b1
    try clear p2
    try clear c3
    try clear c3b0
    try clear c3b1
    obtain ⟨x3_1, x4_1, rfl, HA, HK1, HO_3, HB⟩ := hrel
    cases gk with
    | zero => exact absurd HA.out (by simp [zV.l0])
    | succ k1 =>
     have H := HA.out
     clear HA
     simp only [zV.l0] at H
     by_cases c6 : x4_1 < (l0.length : Int)
     ·rw [if_pos c6] at H
      have c6b0 : decide (x4_1 < (l0.length : Int)) = true := decide_eq_true c6
      clear c6
      by_cases c7 : 0 ≤ x4_1
      ·rw [if_pos c7] at H
       have c7b0 : decide (0 ≤ x4_1) = true := decide_eq_true c7
       clear c7
       by_cases c8 : x4_1 < (x3_1.length : Int)
       ·rw [if_pos c8] at H
        have c8b0 : decide (x4_1 < (x3_1.length : Int)) = true := decide_eq_true c8
        clear c8
        obtain ⟨y107, hy107⟩ : ∃ y_ : List Int, y_ = (x3_1.set (x4_1 : Int).toNat (rd l0 x4_1)) := ⟨_, rfl⟩
        replace H : (zV.l0 k1 l0 y107 (wrap64 (x4_1 + 1))) = some r := by first | (rw [hy107]; with_reducible exact H) | (have H2_ := (Option.bind_some _ _).symm.trans H; rw [hy107]; with_reducible exact H2_) | (have H2_ := (Option.bind_some _ _).symm.trans H; with_reducible exact H2_) | with_reducible exact H | (rw [hy107]; exact H) | exact H
        have Ny107 := Aside0.mk hy107
        clear hy107
        have H' := Aside0.mk H
        clear H
        have p106 : 0 ≤ (x4_1 : Int) := of_decide_eq_true sqA
        have q106 : x4_1 < (l0.length : Int) := of_decide_eq_true sqA
        obtain ⟨ad106, e106, hx106_0⟩ := Kd.qd HR0.out x4_1 p106 q106
        cases e106
        replace hx106_0 := (HB.out.cell (World.block_lt_of_cell? w _ hx106_0)).trans hx106_0
        replace p106 := eq_true p106
        replace q106 := eq_true q106
        have p9 : 0 ≤ (x4_1 : Int) := of_decide_eq_true sqA
        have q9 : (x4_1 : Int) < ((x3_1.length : Int) : Int) := of_decide_eq_true sqA
        obtain ⟨go9, co9, eo9, gb9, gl9, cl9, HG9⟩ := Kd.vu HO_3.out (by omega)
        (first | cases eo9 | (injection eo9 with ea_ en_ ec_; (first | subst ea_ | (injection ea_ with ea_; subst ea_)); subst ec_; clear en_))
        (try simp only [add_plain] at *)
        have GB9 := Aside0.mk gb9
        have GG9 := Aside0.mk HG9
        clear gb9 gl9 HG9
        obtain ⟨hx9_0, hf9_0⟩ := Kd.jk 0 HO_3.out (x4_1 : Int) p9 q9
        replace p9 := eq_true p9
        replace q9 := eq_true q9
        have HP10 := Kd.yt HO_3.out (x4_1 : Int) (rd l0 x4_1)
        go_wp2_with (first | ((with_reducible refine jF (t := 3) (p := 20) rfl ?_); refine jx (t := 3) (p := 20) (v := ?vo_w11) (w1 := (wr.setCell ⟨go9, (x4_1 : Int).toNat, none⟩ (.int .i64 (rd l0 x4_1)))) ?hg ?ho ?hn ?hr ?_; (case ho => rfl); (case hg => rfl); (case hn => rfl); (case hr => exact sqG); intro w11 hw; have hg : wr.grownBy w11 (some go9) := (by rw [hw]; exact HP10.2); have hp_ : Kd.R (Kd.int .i64) 3 w11 w.heap.size (fun _ => True) (.slice (some ⟨go9, 0, none⟩) x3_1.length co9) y107 := (by rw [hw, Ny107.out]; exact HP10.1); clear HP10; have n0_ := Aside0.mk (hp_); have n1_ := Aside0.mk ((by rw [hw]; exact zM (HB.out) GB9.out : Below w.heap.size w w11)); clear HO_3; clear HB; have HO_3 := n0_; have HB := n1_; clear n0_ n1_; clear hg hw hp_))
        go_roundg k1
        case measure => have := HK1.out; omega
        case rel => exact ⟨(y107), (wrap64 (x4_1 + 1)), (sqD), H', ⟨by have := HK1.out; omega⟩, ⟨sqR HO_3.out⟩, ⟨sqB⟩⟩
       ·rw [if_neg c8] at H
        exact absurd H (by simp)
      ·rw [if_neg c7] at H
       exact absurd H (by simp)
     ·rw [if_neg c6] at H
      have c6b0 : decide (x4_1 < (l0.length : Int)) = false := decide_eq_false c6
      clear c6
      obtain rfl := Option.some.inj H
      go_wp2
      go_ret
      exact ⟨_, sqE, sqR HO_3.out, sqB⟩
  ·rw [if_neg c3] at H
   exact absurd H (by simp)
 ·rw [if_neg c2] at H
  exact absurd H (by simp)

def zE.f (k : Nat) (a0_0 : Int) (a0_1 : Int) (a0_2 : Int) (l0_3 : List Int) : Option (Int × Int × Int × List Int) := (zV.f k l0_3).bind fun t111 => (some (a0_0, a0_1, a0_2, t111))
theorem zE.calls (k : Nat) (a0_0 : Int) (a0_1 : Int) (a0_2 : Int) (A0_3 : Option Addr) (c0_3 : Nat) (l0_3 : List Int) (r1 : Int) (r2 : Int) (r3 : Int) (r4 : List Int) (w : World) (hr0_3 : Kd.C (Kd.int .i64) w A0_3 l0_3.length l0_3) (hc0_3 : l0_3.length ≤ c0_3) (h : zE.f k a0_0 a0_1 a0_2 l0_3 = some (r1, r2, r3, r4)) :
  Calls Try.prog 13 #[.agg #[.int .i64 a0_0, .int .i64 a0_1, .int .i64 a0_2, .slice A0_3 l0_3.length c0_3]] w fun e w' => ∃ v3_ : Value, e = .returned (.agg #[.int .i64 r1, .int .i64 r2, .int .i64 r3, v3_]) ∧ Kd.R (Kd.int .i64) 3 w' w.heap.size (fun _ => True) v3_ r4 ∧ Below w.heap.size w w' := by
 have hu24 := Try.underlying24
 have hu27 := Try.underlying27
 have HR0_3 := Aside0.mk hr0_3
 have HC0_3 := Aside0.mk hc0_3
 clear hr0_3 hc0_3
 have HB := Aside0.mk (Below.refl w.heap.size w)
 have H : ((zV.f k l0_3).bind fun t111 => (some (a0_0, a0_1, a0_2, t111))) = some (r1, r2, r3, r4) := h
 clear h
 replace H := Option.bind_eq_some_iff.mp H
 obtain ⟨t111, A20, H⟩ := H
 replace H : (some (a0_0, a0_1, a0_2, t111)) = some (r1, r2, r3, r4) := H
 have A2 := Aside0.mk A20
 clear A20
 simp only [Option.some.injEq, Prod.mk.injEq] at H
 obtain ⟨rfl, rfl, rfl, rfl⟩ := H
 go_enter Try.func13, Try.ntmps13
 go_wp2_with (first | ((with_reducible refine zx (N := 1) rfl ?_); refine zy ?hg (N := 1) ?hd (cs := #[.int .i64 a0_0, .int .i64 a0_1, .int .i64 a0_2, .slice A0_3 l0_3.length c0_3]) (t := 24) ?hr ?_; (case hd => rfl); (case hg => rfl); (case hr => exact sqG); intro gb108 hg w3 hbox hb; have n0_ := Aside0.mk (zj sqB hb); have n1_ := Aside0.mk (hbox); have n2_ := Aside0.mk ((sqS hg : w.heap.size ≤ gb108)); have n3_ := Aside0.mk ((sqS hg : w.heap.size ≤ gb108)); clear HB; have HB := n0_; have BK108 := n1_; have GW108 := n2_; have GE108 := n3_; clear n0_ n1_ n2_ n3_; clear hb hbox hg) | ((with_reducible refine zx (N := 2) rfl ?_); refine zy ?hg (N := 2) ?hd (cs := #[.int .i64 0, .int .i64 0, .int .i64 0, .slice none 0 0]) (t := 27) ?hr ?_; (case hd => rfl); (case hg => rfl); (case hr => exact sqG); intro gb109 hg w4 hbox hb; have n0_ := Aside0.mk (zq (g := gb108) (o := .cells #[.int .i64 a0_0, .int .i64 a0_1, .int .i64 a0_2, .slice A0_3 l0_3.length c0_3] 24 (0, 0)) (sqK BK108.out) hb); have n1_ := Aside0.mk (zj sqB hb); have n2_ := Aside0.mk (hbox); have n3_ := Aside0.mk ((sqS hg : w.heap.size ≤ gb109)); have n4_ := Aside0.mk ((sqS hg : w.heap.size ≤ gb109)); have n5_ := Aside0.mk ((by rw [hg]; exact Nat.ne_of_lt (zS (g := gb108) (o := .cells #[.int .i64 a0_0, .int .i64 a0_1, .int .i64 a0_2, .slice A0_3 l0_3.length c0_3] 24 (0, 0)) (sqK BK108.out)) : gb108 ≠ gb109)); have n6_ := Aside0.mk ((by rw [hg]; exact Nat.ne_of_gt (zS (g := gb108) (o := .cells #[.int .i64 a0_0, .int .i64 a0_1, .int .i64 a0_2, .slice A0_3 l0_3.length c0_3] 24 (0, 0)) (sqK BK108.out)) : gb109 ≠ gb108)); clear BK108; clear HB; have BK108 := n0_; have HB := n1_; have BK109 := n2_; have GW109 := n3_; have GE109 := n4_; have NB108_109 := n5_; have NB109_108 := n6_; clear n0_ n1_ n2_ n3_ n4_ n5_ n6_; clear hb hbox hg) | ((with_reducible refine zx (N := 3) rfl ?_); refine zy ?hg (N := 3) ?hd (cs := #[.int .i64 0, .int .i64 0, .int .i64 0, .slice none 0 0]) (t := 27) ?hr ?_; (case hd => rfl); (case hg => rfl); (case hr => exact sqG); intro gb110 hg w5 hbox hb; have n0_ := Aside0.mk (zq (g := gb108) (o := .cells #[.int .i64 a0_0, .int .i64 a0_1, .int .i64 a0_2, .slice A0_3 l0_3.length c0_3] 24 (0, 0)) (sqK BK108.out) hb); have n1_ := Aside0.mk (zq (g := gb109) (o := .cells #[.int .i64 0, .int .i64 0, .int .i64 0, .slice none 0 0] 27 (0, 0)) (sqK BK109.out) hb); have n2_ := Aside0.mk (zj sqB hb); have n3_ := Aside0.mk (hbox); have n4_ := Aside0.mk ((sqS hg : w.heap.size ≤ gb110)); have n5_ := Aside0.mk ((sqS hg : w.heap.size ≤ gb110)); have n6_ := Aside0.mk ((by rw [hg]; exact Nat.ne_of_lt (zS (g := gb108) (o := .cells #[.int .i64 a0_0, .int .i64 a0_1, .int .i64 a0_2, .slice A0_3 l0_3.length c0_3] 24 (0, 0)) (sqK BK108.out)) : gb108 ≠ gb110)); have n7_ := Aside0.mk ((by rw [hg]; exact Nat.ne_of_gt (zS (g := gb108) (o := .cells #[.int .i64 a0_0, .int .i64 a0_1, .int .i64 a0_2, .slice A0_3 l0_3.length c0_3] 24 (0, 0)) (sqK BK108.out)) : gb110 ≠ gb108)); have n8_ := Aside0.mk ((by rw [hg]; exact Nat.ne_of_lt (zS (g := gb109) (o := .cells #[.int .i64 0, .int .i64 0, .int .i64 0, .slice none 0 0] 27 (0, 0)) (sqK BK109.out)) : gb109 ≠ gb110)); have n9_ := Aside0.mk ((by rw [hg]; exact Nat.ne_of_gt (zS (g := gb109) (o := .cells #[.int .i64 0, .int .i64 0, .int .i64 0, .slice none 0 0] 27 (0, 0)) (sqK BK109.out)) : gb110 ≠ gb109)); clear BK108; clear BK109; clear HB; have BK108 := n0_; have BK109 := n1_; have HB := n2_; have BK110 := n3_; have GW110 := n4_; have GE110 := n5_; have NB108_110 := n6_; have NB110_108 := n7_; have NB109_110 := n8_; have NB110_109 := n9_; clear n0_ n1_ n2_ n3_ n4_ n5_ n6_ n7_ n8_ n9_; clear hb hbox hg; have hnb6 := NB108_109.out; have hnc6 := NB109_108.out; have hnb7 := NB108_110.out; have hnc7 := NB110_108.out; have hcz8_0 : w5.cell? ⟨gb108, 0, none⟩ = some (.int .i64 a0_0) := (zb BK108.out 0).trans rfl; have hcz8_1 : w5.cell? ⟨gb108, 1, none⟩ = some (.int .i64 a0_1) := (zb BK108.out 1).trans rfl; have hcz8_2 : w5.cell? ⟨gb108, 2, none⟩ = some (.int .i64 a0_2) := (zb BK108.out 2).trans rfl; have hcz8_3 : w5.cell? ⟨gb108, 3, none⟩ = some (.slice A0_3 l0_3.length c0_3) := (zb BK108.out 3).trans rfl; have hfz8_0 := za BK108.out 0; have hfz8_1 := za BK108.out 1; have hfz8_2 := za BK108.out 2; have hfz8_3 := za BK108.out 3; have hnb9 := NB110_109.out; have hnc9 := NB109_110.out; have hcz10_0 : w5.cell? ⟨gb110, 0, none⟩ = some (.int .i64 0) := (zb BK110.out 0).trans rfl; have hcz10_1 : w5.cell? ⟨gb110, 1, none⟩ = some (.int .i64 0) := (zb BK110.out 1).trans rfl; have hcz10_2 : w5.cell? ⟨gb110, 2, none⟩ = some (.int .i64 0) := (zb BK110.out 2).trans rfl; have hcz10_3 : w5.cell? ⟨gb110, 3, none⟩ = some (.slice none 0 0) := (zb BK110.out 3).trans rfl; have hfz10_0 := za BK110.out 0; have hfz10_1 := za BK110.out 1; have hfz10_2 := za BK110.out 2; have hfz10_3 := za BK110.out 3) | ((with_reducible refine zt (f := 38) rfl ?_); refine zN (some 15) rfl rfl Try.func38 (by kernel_rfl) rfl #[.slice A0_3 l0_3.length c0_3] rfl sqM ?_; (with_reducible refine (zV.calls k _ _ l0_3 t111 _ ?side1 ?side2 A2.out).mono ?_); (case side1 => exact Kd.z7 HR0_3.out sqB); (case side2 => exact HC0_3.out); rintro e w11 ⟨v112, rfl, ho0, hb⟩; refine ⟨_, rfl, ?_⟩; have n0_ := Aside0.mk (Kd.qE ho0 (zI sqB)); have n1_ := Aside0.mk (zq (g := gb108) (o := .cells #[.int .i64 a0_0, .int .i64 a0_1, .int .i64 a0_2, .slice A0_3 l0_3.length c0_3] 24 (0, 0)) (by refine sqK ?_; refine zB ?_ NB108_110.out _; refine sqK ?_; refine zB ?_ NB108_110.out _; refine sqK ?_; refine zB ?_ NB108_110.out _; refine sqK ?_; exact BK108.out) hb); have n2_ := Aside0.mk (zq (g := gb109) (o := .cells #[.int .i64 0, .int .i64 0, .int .i64 0, .slice none 0 0] 27 (0, 0)) (by refine sqK ?_; refine zB ?_ NB109_110.out _; refine sqK ?_; refine zB ?_ NB109_110.out _; refine sqK ?_; refine zB ?_ NB109_110.out _; refine sqK ?_; exact BK109.out) hb); have n3_ := Aside0.mk (zq (g := gb110) (o := .cells #[.int .i64 a0_0, .int .i64 a0_1, .int .i64 a0_2, .slice none 0 0] 27 (0, 0)) (by refine sqK ?_; refine zG (cs := #[.int .i64 a0_0, .int .i64 a0_1, .int .i64 0, .slice none 0 0]) ?_ 2 _ rfl; refine sqK ?_; refine zG (cs := #[.int .i64 a0_0, .int .i64 0, .int .i64 0, .slice none 0 0]) ?_ 1 _ rfl; refine sqK ?_; refine zG (cs := #[.int .i64 0, .int .i64 0, .int .i64 0, .slice none 0 0]) ?_ 0 _ rfl; refine sqK ?_; exact BK110.out) hb); have n4_ := Aside0.mk (zj sqB hb); clear BK108; clear BK109; clear BK110; clear HB; have HO113 := n0_; have BK108 := n1_; have BK109 := n2_; have BK110 := n3_; have HB := n4_; clear n0_ n1_ n2_ n3_ n4_; (try clear hb); (try clear hb2); (try clear hk); (try clear hi); (try clear ho0); obtain ⟨Ao12, co12, eo12⟩ := Kd.z1 HO113.out; subst eo12; have hcz13_0 : w11.cell? ⟨gb110, 0, none⟩ = some (.int .i64 a0_0) := (zb BK110.out 0).trans rfl; have hcz13_1 : w11.cell? ⟨gb110, 1, none⟩ = some (.int .i64 a0_1) := (zb BK110.out 1).trans rfl; have hcz13_2 : w11.cell? ⟨gb110, 2, none⟩ = some (.int .i64 a0_2) := (zb BK110.out 2).trans rfl; have hcz13_3 : w11.cell? ⟨gb110, 3, none⟩ = some (.slice none 0 0) := (zb BK110.out 3).trans rfl; have hfz13_0 := za BK110.out 0; have hfz13_1 := za BK110.out 1; have hfz13_2 := za BK110.out 2; have hfz13_3 := za BK110.out 3; have hcz14_0 : w11.cell? ⟨gb109, 0, none⟩ = some (.int .i64 0) := (zb BK109.out 0).trans rfl; have hcz14_1 : w11.cell? ⟨gb109, 1, none⟩ = some (.int .i64 0) := (zb BK109.out 1).trans rfl; have hcz14_2 : w11.cell? ⟨gb109, 2, none⟩ = some (.int .i64 0) := (zb BK109.out 2).trans rfl; have hcz14_3 : w11.cell? ⟨gb109, 3, none⟩ = some (.slice none 0 0) := (zb BK109.out 3).trans rfl; have hfz14_0 := za BK109.out 0; have hfz14_1 := za BK109.out 1; have hfz14_2 := za BK109.out 2; have hfz14_3 := za BK109.out 3))
 refine bodyPost_ret (results_cell_row rfl _ _ gb109 27 #[.int .i64 a0_0, .int .i64 a0_1, .int .i64 a0_2, .slice Ao12 t111.length co12] (0, 0) _ rfl (by refine sqK ?_; refine zG (cs := #[.int .i64 a0_0, .int .i64 a0_1, .int .i64 a0_2, .slice none 0 0]) ?_ 3 _ rfl; refine sqK ?_; refine zG (cs := #[.int .i64 a0_0, .int .i64 a0_1, .int .i64 0, .slice none 0 0]) ?_ 2 _ rfl; refine sqK ?_; refine zG (cs := #[.int .i64 a0_0, .int .i64 0, .int .i64 0, .slice none 0 0]) ?_ 1 _ rfl; refine sqK ?_; refine zG (cs := #[.int .i64 0, .int .i64 0, .int .i64 0, .slice none 0 0]) ?_ 0 _ rfl; refine sqK ?_; refine zB ?_ NB109_110.out _; refine sqK ?_; exact BK109.out) Try.underlying27 rfl (by kernel_rfl)) rfl ?_
 exact ⟨_, sqE, by refine sqR ?_; exact Kd.zO (Kd.zP (p := ⟨gb109, 3, none⟩) (Kd.zP (p := ⟨gb109, 2, none⟩) (Kd.zP (p := ⟨gb109, 1, none⟩) (Kd.zP (p := ⟨gb109, 0, none⟩) (Kd.zP (p := ⟨gb110, 3, none⟩) (Kd.qt (Kd.qt HO113.out BK110.out (by decide)) BK109.out (by decide)) (fun _ hk => hk.1.2) (.slice Ao12 t111.length co12)) (fun _ hk => hk.2) (.int .i64 a0_0)) (fun _ hk => hk.2) (.int .i64 a0_1)) (fun _ hk => hk.2) (.int .i64 a0_2)) (fun _ hk => hk.2) (.slice Ao12 t111.length co12)) (fun _ hk => trivial), sqB⟩

def qb.l0 : Nat → List Int → List Int → Int → Option (Bool)
 | 0, _, _, _ => none
 | k + 1, x0, x1, x5 => if x5 < (x0.length : Int) then (if 0 ≤ x5 then (if x5 < (x1.length : Int) then (if (rd x0 x5) = (rd x1 x5) then (qb.l0 k x0 x1 (wrap64 (x5 + 1))) else (some false)) else (none)) else (none)) else (some true)
def qb.f (k : Nat) (l0 : List Int) (l1 : List Int) : Option (Bool) := if (l0.length : Int) = (l1.length : Int) then (qb.l0 k l0 l1 0) else (some false)
theorem qb.calls (k : Nat) (A0 : Option Addr) (c0 : Nat) (l0 : List Int) (A1 : Option Addr) (c1 : Nat) (l1 : List Int) (r : Bool) (w : World) (hr0 : Kd.C (Kd.int .i64) w A0 l0.length l0) (hc0 : l0.length ≤ c0) (hr1 : Kd.C (Kd.int .i64) w A1 l1.length l1) (hc1 : l1.length ≤ c1) (h : qb.f k l0 l1 = some r) :
  Calls Try.prog 41 #[.slice A0 l0.length c0, .slice A1 l1.length c1] w fun e w' => e = .returned (.bool r) ∧ zn w w' := by
 have HR0 := Aside0.mk hr0
 have HC0 := Aside0.mk hc0
 clear hr0 hc0
 have HR1 := Aside0.mk hr1
 have HC1 := Aside0.mk hc1
 clear hr1 hc1
 have H : (if (l0.length : Int) = (l1.length : Int) then (qb.l0 k l0 l1 0) else (some false)) = some r := h
 clear h
 by_cases c3 : (l0.length : Int) = (l1.length : Int)
 ·rw [if_pos c3] at H
  have c3b0 : ((l0.length : Int) == (l1.length : Int)) = true := beq_iff_eq.mpr c3
  have c3b1 : ((l0.length : Int) != (l1.length : Int)) = false := bne_eq_false_iff_eq.mpr c3
  have c3b2 : (l0.length == l1.length) = true := by first | simpa using c3 | (simp at c3 ⊢; omega)
  clear c3
  have H' := Aside0.mk H
  clear H
  go_enter Try.func41, Try.ntmps41
  go_wp2
  repeat (go_quiet (fail); try go_wp2)
  go_loopg [5] k (fun kq v5 w' => ∃ (x5_1 : Int), v5 = .int .i64 x5_1 ∧ Aside0 (qb.l0 kq l0 l1 x5_1 = some r) ∧ Aside0 (kq ≤ k) ∧ zn w w')
  case atStart => exact ⟨(0), (sqD), H', ⟨Nat.le_refl _⟩, by repeat (first | exact zn.refl _ | apply zn.step)⟩
  case round =>
   clear H'
   try clear c1
   try clear p2
   try clear c3
   try clear c3b0
   try clear c3b1
   try clear c3b2
   obtain ⟨x5_1, rfl, HA, HK1, ⟨m1, rfl⟩⟩ := hrel
   cases gk with
   | zero => exact absurd HA.out (by simp [qb.l0])
   | succ k1 =>
    have H := HA.out
    clear HA
    simp only [qb.l0] at H
    by_cases c4 : x5_1 < (l0.length : Int)
    ·rw [if_pos c4] at H
     have c4b0 : decide (x5_1 < (l0.length : Int)) = true := decide_eq_true c4
     clear c4
     by_cases c5 : 0 ≤ x5_1
     ·rw [if_pos c5] at H
      have c5b0 : decide (0 ≤ x5_1) = true := decide_eq_true c5
      clear c5
      by_cases c6 : x5_1 < (l1.length : Int)
      ·rw [if_pos c6] at H
       have c6b0 : decide (x5_1 < (l1.length : Int)) = true := decide_eq_true c6
       clear c6
       by_cases c7 : (rd l0 x5_1) = (rd l1 x5_1)
       ·rw [if_pos c7] at H
        have c7b0 : ((rd l0 x5_1) == (rd l1 x5_1)) = true := beq_iff_eq.mpr c7
        have c7b1 : ((rd l0 x5_1) != (rd l1 x5_1)) = false := bne_eq_false_iff_eq.mpr c7
        clear c7
        have H' := Aside0.mk H
        clear H
        have p114 : 0 ≤ (x5_1 : Int) := of_decide_eq_true sqA
        have q114 : x5_1 < (l0.length : Int) := of_decide_eq_true sqA
        obtain ⟨ad114, e114, hx114_0⟩ := Kd.qd HR0.out x5_1 p114 q114
        cases e114
        replace p114 := eq_true p114
        replace q114 := eq_true q114
        have p115 : 0 ≤ (x5_1 : Int) := of_decide_eq_true sqA
        have q115 : x5_1 < (l1.length : Int) := of_decide_eq_true sqA
        obtain ⟨ad115, e115, hx115_0⟩ := Kd.qd HR1.out x5_1 p115 q115
        cases e115
        replace p115 := eq_true p115
        replace q115 := eq_true q115
        go_wp2
        repeat (go_quiet (fail); try go_wp2)
        go_roundg k1
        case measure => have := HK1.out; omega
        case rel => exact ⟨(wrap64 (x5_1 + 1)), (sqD), H', ⟨by have := HK1.out; omega⟩, by repeat (first | exact zn.refl _ | apply zn.step)⟩
       ·rw [if_neg c7] at H
        have c7b0 : ((rd l0 x5_1) == (rd l1 x5_1)) = false := beq_eq_false_iff_ne.mpr c7
        have c7b1 : ((rd l0 x5_1) != (rd l1 x5_1)) = true := bne_iff_ne.mpr c7
        obtain rfl := Option.some.inj H
        have p114 : 0 ≤ (x5_1 : Int) := of_decide_eq_true sqA
        have q114 : x5_1 < (l0.length : Int) := of_decide_eq_true sqA
        obtain ⟨ad114, e114, hx114_0⟩ := Kd.qd HR0.out x5_1 p114 q114
        cases e114
        replace p114 := eq_true p114
        replace q114 := eq_true q114
        have p115 : 0 ≤ (x5_1 : Int) := of_decide_eq_true sqA
        have q115 : x5_1 < (l1.length : Int) := of_decide_eq_true sqA
        obtain ⟨ad115, e115, hx115_0⟩ := Kd.qd HR1.out x5_1 p115 q115
        cases e115
        replace p115 := eq_true p115
        replace q115 := eq_true q115
        go_wp2
        repeat (go_quiet (fail); try go_wp2)
        go_ret
        exact ⟨sqD, by repeat (first | exact zn.refl _ | apply zn.step)⟩
      ·rw [if_neg c6] at H
       exact absurd H (by simp)
     ·rw [if_neg c5] at H
      exact absurd H (by simp)
    ·rw [if_neg c4] at H
     have c4b0 : decide (x5_1 < (l0.length : Int)) = false := decide_eq_false c4
     clear c4
     obtain rfl := Option.some.inj H
     go_wp2
     repeat (go_quiet (fail); try go_wp2)
     go_ret
     exact ⟨sqD, by repeat (first | exact zn.refl _ | apply zn.step)⟩
 ·rw [if_neg c3] at H
  have c3b0 : ((l0.length : Int) == (l1.length : Int)) = false := beq_eq_false_iff_ne.mpr c3
  have c3b1 : ((l0.length : Int) != (l1.length : Int)) = true := bne_iff_ne.mpr c3
  have c3b2 : (l0.length == l1.length) = false := by first | simpa using c3 | (simp at c3 ⊢; omega)
  obtain rfl := Option.some.inj H
  go_enter Try.func41, Try.ntmps41
  go_wp2
  repeat (go_quiet (fail); try go_wp2)
  go_ret
  exact ⟨sqD, by repeat (first | exact zn.refl _ | apply zn.step)⟩

def qe.f (k : Nat) (a0_0 : Int) (a0_1 : Int) (a0_2 : Int) (l0_3 : List Int) (a1_0 : Int) (a1_1 : Int) (a1_2 : Int) (l1_3 : List Int) : Option (Bool) := if a0_0 = a1_0 then (if a0_1 = a1_1 then (if a0_2 = a1_2 then ((qb.f k l0_3 l1_3).bind fun t118 => (if t118 = true then (some true) else (some false))) else (some false)) else (some false)) else (some false)
theorem qe.calls (k : Nat) (a0_0 : Int) (a0_1 : Int) (a0_2 : Int) (A0_3 : Option Addr) (c0_3 : Nat) (l0_3 : List Int) (a1_0 : Int) (a1_1 : Int) (a1_2 : Int) (A1_3 : Option Addr) (c1_3 : Nat) (l1_3 : List Int) (r : Bool) (w : World) (hr0_3 : Kd.C (Kd.int .i64) w A0_3 l0_3.length l0_3) (hc0_3 : l0_3.length ≤ c0_3) (hr1_3 : Kd.C (Kd.int .i64) w A1_3 l1_3.length l1_3) (hc1_3 : l1_3.length ≤ c1_3) (h : qe.f k a0_0 a0_1 a0_2 l0_3 a1_0 a1_1 a1_2 l1_3 = some r) :
  Calls Try.prog 15 #[.agg #[.int .i64 a0_0, .int .i64 a0_1, .int .i64 a0_2, .slice A0_3 l0_3.length c0_3], .agg #[.int .i64 a1_0, .int .i64 a1_1, .int .i64 a1_2, .slice A1_3 l1_3.length c1_3]] w fun e w' => e = .returned (.bool r) ∧ Below w.heap.size w w' := by
 have hu27 := Try.underlying27
 have HR0_3 := Aside0.mk hr0_3
 have HC0_3 := Aside0.mk hc0_3
 clear hr0_3 hc0_3
 have HR1_3 := Aside0.mk hr1_3
 have HC1_3 := Aside0.mk hc1_3
 clear hr1_3 hc1_3
 have HB := Aside0.mk (Below.refl w.heap.size w)
 have H : (if a0_0 = a1_0 then (if a0_1 = a1_1 then (if a0_2 = a1_2 then ((qb.f k l0_3 l1_3).bind fun t118 => (if t118 = true then (some true) else (some false))) else (some false)) else (some false)) else (some false)) = some r := h
 clear h
 by_cases c3 : a0_0 = a1_0
 ·rw [if_pos c3] at H
  have c3b0 : (a0_0 == a1_0) = true := beq_iff_eq.mpr c3
  have c3b1 : (a0_0 != a1_0) = false := bne_eq_false_iff_eq.mpr c3
  clear c3
  by_cases c4 : a0_1 = a1_1
  ·rw [if_pos c4] at H
   have c4b0 : (a0_1 == a1_1) = true := beq_iff_eq.mpr c4
   have c4b1 : (a0_1 != a1_1) = false := bne_eq_false_iff_eq.mpr c4
   clear c4
   by_cases c5 : a0_2 = a1_2
   ·rw [if_pos c5] at H
    have c5b0 : (a0_2 == a1_2) = true := beq_iff_eq.mpr c5
    have c5b1 : (a0_2 != a1_2) = false := bne_eq_false_iff_eq.mpr c5
    clear c5
    replace H := Option.bind_eq_some_iff.mp H
    obtain ⟨t118, A60, H⟩ := H
    replace H : (if t118 = true then (some true) else (some false)) = some r := H
    have A6 := Aside0.mk A60
    clear A60
    by_cases c7 : t118 = true
    ·subst c7
     have H1 : (some true) = some r := by rw [if_pos rfl] at H; exact H
     clear H
     have H := H1
     clear H1
     obtain rfl := Option.some.inj H
     go_enter Try.func15, Try.ntmps15
     go_wp2_with (first | ((with_reducible refine zx (N := 2) rfl ?_); refine zy ?hg (N := 2) ?hd (cs := #[.int .i64 a0_0, .int .i64 a0_1, .int .i64 a0_2, .slice A0_3 l0_3.length c0_3]) (t := 27) ?hr ?_; (case hd => rfl); (case hg => rfl); (case hr => exact sqG); intro gb116 hg w8 hbox hb; have n0_ := Aside0.mk (zj sqB hb); have n1_ := Aside0.mk (hbox); have n2_ := Aside0.mk ((sqS hg : w.heap.size ≤ gb116)); have n3_ := Aside0.mk ((sqS hg : w.heap.size ≤ gb116)); clear HB; have HB := n0_; have BK116 := n1_; have GW116 := n2_; have GE116 := n3_; clear n0_ n1_ n2_ n3_; clear hb hbox hg) | ((with_reducible refine zx (N := 3) rfl ?_); refine zy ?hg (N := 3) ?hd (cs := #[.int .i64 a1_0, .int .i64 a1_1, .int .i64 a1_2, .slice A1_3 l1_3.length c1_3]) (t := 27) ?hr ?_; (case hd => rfl); (case hg => rfl); (case hr => exact sqG); intro gb117 hg w9 hbox hb; have n0_ := Aside0.mk (zq (g := gb116) (o := .cells #[.int .i64 a0_0, .int .i64 a0_1, .int .i64 a0_2, .slice A0_3 l0_3.length c0_3] 27 (0, 0)) (sqK BK116.out) hb); have n1_ := Aside0.mk (zj sqB hb); have n2_ := Aside0.mk (hbox); have n3_ := Aside0.mk ((sqS hg : w.heap.size ≤ gb117)); have n4_ := Aside0.mk ((sqS hg : w.heap.size ≤ gb117)); have n5_ := Aside0.mk ((by rw [hg]; exact Nat.ne_of_lt (zS (g := gb116) (o := .cells #[.int .i64 a0_0, .int .i64 a0_1, .int .i64 a0_2, .slice A0_3 l0_3.length c0_3] 27 (0, 0)) (sqK BK116.out)) : gb116 ≠ gb117)); have n6_ := Aside0.mk ((by rw [hg]; exact Nat.ne_of_gt (zS (g := gb116) (o := .cells #[.int .i64 a0_0, .int .i64 a0_1, .int .i64 a0_2, .slice A0_3 l0_3.length c0_3] 27 (0, 0)) (sqK BK116.out)) : gb117 ≠ gb116)); clear BK116; clear HB; have BK116 := n0_; have HB := n1_; have BK117 := n2_; have GW117 := n3_; have GE117 := n4_; have NB116_117 := n5_; have NB117_116 := n6_; clear n0_ n1_ n2_ n3_ n4_ n5_ n6_; clear hb hbox hg; have hnb10 := NB116_117.out; have hnc10 := NB117_116.out; have hcz11_0 : w9.cell? ⟨gb116, 0, none⟩ = some (.int .i64 a0_0) := (zb BK116.out 0).trans rfl; have hcz11_1 : w9.cell? ⟨gb116, 1, none⟩ = some (.int .i64 a0_1) := (zb BK116.out 1).trans rfl; have hcz11_2 : w9.cell? ⟨gb116, 2, none⟩ = some (.int .i64 a0_2) := (zb BK116.out 2).trans rfl; have hcz11_3 : w9.cell? ⟨gb116, 3, none⟩ = some (.slice A0_3 l0_3.length c0_3) := (zb BK116.out 3).trans rfl; have hfz11_0 := za BK116.out 0; have hfz11_1 := za BK116.out 1; have hfz11_2 := za BK116.out 2; have hfz11_3 := za BK116.out 3; have hcz12_0 : w9.cell? ⟨gb117, 0, none⟩ = some (.int .i64 a1_0) := (zb BK117.out 0).trans rfl; have hcz12_1 : w9.cell? ⟨gb117, 1, none⟩ = some (.int .i64 a1_1) := (zb BK117.out 1).trans rfl; have hcz12_2 : w9.cell? ⟨gb117, 2, none⟩ = some (.int .i64 a1_2) := (zb BK117.out 2).trans rfl; have hcz12_3 : w9.cell? ⟨gb117, 3, none⟩ = some (.slice A1_3 l1_3.length c1_3) := (zb BK117.out 3).trans rfl; have hfz12_0 := za BK117.out 0; have hfz12_1 := za BK117.out 1; have hfz12_2 := za BK117.out 2; have hfz12_3 := za BK117.out 3) | ((with_reducible refine zt (f := 41) rfl ?_); refine zN (some 24) rfl rfl Try.func41 (by kernel_rfl) rfl #[.slice A0_3 l0_3.length c0_3, .slice A1_3 l1_3.length c1_3] rfl sqM ?_; (with_reducible refine (qb.calls k _ _ l0_3 _ _ l1_3 true _ ?side1 ?side2 ?side3 ?side4 A6.out).mono ?_); (case side1 => exact sqC (Kd.z7 HR0_3.out HB.out)); (case side2 => exact HC0_3.out); (case side3 => exact sqC (Kd.z7 HR1_3.out HB.out)); (case side4 => exact HC1_3.out); rintro e w' ⟨rfl, ⟨nd, rfl⟩⟩; refine ⟨_, rfl, ?_⟩))
     go_ret
     exact ⟨sqE, sqB⟩
    ·replace c7 := Bool.eq_false_iff.mpr c7
     subst c7
     have H1 : (some false) = some r := by rw [if_neg (show ¬ (false = true) by decide)] at H; exact H
     clear H
     have H := H1
     clear H1
     obtain rfl := Option.some.inj H
     go_enter Try.func15, Try.ntmps15
     go_wp2_with (first | ((with_reducible refine zx (N := 2) rfl ?_); refine zy ?hg (N := 2) ?hd (cs := #[.int .i64 a0_0, .int .i64 a0_1, .int .i64 a0_2, .slice A0_3 l0_3.length c0_3]) (t := 27) ?hr ?_; (case hd => rfl); (case hg => rfl); (case hr => exact sqG); intro gb116 hg w13 hbox hb; have n0_ := Aside0.mk (zj sqB hb); have n1_ := Aside0.mk (hbox); have n2_ := Aside0.mk ((sqS hg : w.heap.size ≤ gb116)); have n3_ := Aside0.mk ((sqS hg : w.heap.size ≤ gb116)); clear HB; have HB := n0_; have BK116 := n1_; have GW116 := n2_; have GE116 := n3_; clear n0_ n1_ n2_ n3_; clear hb hbox hg) | ((with_reducible refine zx (N := 3) rfl ?_); refine zy ?hg (N := 3) ?hd (cs := #[.int .i64 a1_0, .int .i64 a1_1, .int .i64 a1_2, .slice A1_3 l1_3.length c1_3]) (t := 27) ?hr ?_; (case hd => rfl); (case hg => rfl); (case hr => exact sqG); intro gb117 hg w14 hbox hb; have n0_ := Aside0.mk (zq (g := gb116) (o := .cells #[.int .i64 a0_0, .int .i64 a0_1, .int .i64 a0_2, .slice A0_3 l0_3.length c0_3] 27 (0, 0)) (sqK BK116.out) hb); have n1_ := Aside0.mk (zj sqB hb); have n2_ := Aside0.mk (hbox); have n3_ := Aside0.mk ((sqS hg : w.heap.size ≤ gb117)); have n4_ := Aside0.mk ((sqS hg : w.heap.size ≤ gb117)); have n5_ := Aside0.mk ((by rw [hg]; exact Nat.ne_of_lt (zS (g := gb116) (o := .cells #[.int .i64 a0_0, .int .i64 a0_1, .int .i64 a0_2, .slice A0_3 l0_3.length c0_3] 27 (0, 0)) (sqK BK116.out)) : gb116 ≠ gb117)); have n6_ := Aside0.mk ((by rw [hg]; exact Nat.ne_of_gt (zS (g := gb116) (o := .cells #[.int .i64 a0_0, .int .i64 a0_1, .int .i64 a0_2, .slice A0_3 l0_3.length c0_3] 27 (0, 0)) (sqK BK116.out)) : gb117 ≠ gb116)); clear BK116; clear HB; have BK116 := n0_; have HB := n1_; have BK117 := n2_; have GW117 := n3_; have GE117 := n4_; have NB116_117 := n5_; have NB117_116 := n6_; clear n0_ n1_ n2_ n3_ n4_ n5_ n6_; clear hb hbox hg; have hnb15 := NB116_117.out; have hnc15 := NB117_116.out; have hcz16_0 : w14.cell? ⟨gb116, 0, none⟩ = some (.int .i64 a0_0) := (zb BK116.out 0).trans rfl; have hcz16_1 : w14.cell? ⟨gb116, 1, none⟩ = some (.int .i64 a0_1) := (zb BK116.out 1).trans rfl; have hcz16_2 : w14.cell? ⟨gb116, 2, none⟩ = some (.int .i64 a0_2) := (zb BK116.out 2).trans rfl; have hcz16_3 : w14.cell? ⟨gb116, 3, none⟩ = some (.slice A0_3 l0_3.length c0_3) := (zb BK116.out 3).trans rfl; have hfz16_0 := za BK116.out 0; have hfz16_1 := za BK116.out 1; have hfz16_2 := za BK116.out 2; have hfz16_3 := za BK116.out 3; have hcz17_0 : w14.cell? ⟨gb117, 0, none⟩ = some (.int .i64 a1_0) := (zb BK117.out 0).trans rfl; have hcz17_1 : w14.cell? ⟨gb117, 1, none⟩ = some (.int .i64 a1_1) := (zb BK117.out 1).trans rfl; have hcz17_2 : w14.cell? ⟨gb117, 2, none⟩ = some (.int .i64 a1_2) := (zb BK117.out 2).trans rfl; have hcz17_3 : w14.cell? ⟨gb117, 3, none⟩ = some (.slice A1_3 l1_3.length c1_3) := (zb BK117.out 3).trans rfl; have hfz17_0 := za BK117.out 0; have hfz17_1 := za BK117.out 1; have hfz17_2 := za BK117.out 2; have hfz17_3 := za BK117.out 3) | ((with_reducible refine zt (f := 41) rfl ?_); refine zN (some 24) rfl rfl Try.func41 (by kernel_rfl) rfl #[.slice A0_3 l0_3.length c0_3, .slice A1_3 l1_3.length c1_3] rfl sqM ?_; (with_reducible refine (qb.calls k _ _ l0_3 _ _ l1_3 false _ ?side1 ?side2 ?side3 ?side4 A6.out).mono ?_); (case side1 => exact sqC (Kd.z7 HR0_3.out HB.out)); (case side2 => exact HC0_3.out); (case side3 => exact sqC (Kd.z7 HR1_3.out HB.out)); (case side4 => exact HC1_3.out); rintro e w' ⟨rfl, ⟨nd, rfl⟩⟩; refine ⟨_, rfl, ?_⟩))
     go_ret
     exact ⟨sqE, sqB⟩
   ·rw [if_neg c5] at H
    have c5b0 : (a0_2 == a1_2) = false := beq_eq_false_iff_ne.mpr c5
    have c5b1 : (a0_2 != a1_2) = true := bne_iff_ne.mpr c5
    obtain rfl := Option.some.inj H
    go_enter Try.func15, Try.ntmps15
    go_wp2_with (first | ((with_reducible refine zx (N := 2) rfl ?_); refine zy ?hg (N := 2) ?hd (cs := #[.int .i64 a0_0, .int .i64 a0_1, .int .i64 a0_2, .slice A0_3 l0_3.length c0_3]) (t := 27) ?hr ?_; (case hd => rfl); (case hg => rfl); (case hr => exact sqG); intro gb116 hg w18 hbox hb; have n0_ := Aside0.mk (zj sqB hb); have n1_ := Aside0.mk (hbox); have n2_ := Aside0.mk ((sqS hg : w.heap.size ≤ gb116)); have n3_ := Aside0.mk ((sqS hg : w.heap.size ≤ gb116)); clear HB; have HB := n0_; have BK116 := n1_; have GW116 := n2_; have GE116 := n3_; clear n0_ n1_ n2_ n3_; clear hb hbox hg) | ((with_reducible refine zx (N := 3) rfl ?_); refine zy ?hg (N := 3) ?hd (cs := #[.int .i64 a1_0, .int .i64 a1_1, .int .i64 a1_2, .slice A1_3 l1_3.length c1_3]) (t := 27) ?hr ?_; (case hd => rfl); (case hg => rfl); (case hr => exact sqG); intro gb117 hg w19 hbox hb; have n0_ := Aside0.mk (zq (g := gb116) (o := .cells #[.int .i64 a0_0, .int .i64 a0_1, .int .i64 a0_2, .slice A0_3 l0_3.length c0_3] 27 (0, 0)) (sqK BK116.out) hb); have n1_ := Aside0.mk (zj sqB hb); have n2_ := Aside0.mk (hbox); have n3_ := Aside0.mk ((sqS hg : w.heap.size ≤ gb117)); have n4_ := Aside0.mk ((sqS hg : w.heap.size ≤ gb117)); have n5_ := Aside0.mk ((by rw [hg]; exact Nat.ne_of_lt (zS (g := gb116) (o := .cells #[.int .i64 a0_0, .int .i64 a0_1, .int .i64 a0_2, .slice A0_3 l0_3.length c0_3] 27 (0, 0)) (sqK BK116.out)) : gb116 ≠ gb117)); have n6_ := Aside0.mk ((by rw [hg]; exact Nat.ne_of_gt (zS (g := gb116) (o := .cells #[.int .i64 a0_0, .int .i64 a0_1, .int .i64 a0_2, .slice A0_3 l0_3.length c0_3] 27 (0, 0)) (sqK BK116.out)) : gb117 ≠ gb116)); clear BK116; clear HB; have BK116 := n0_; have HB := n1_; have BK117 := n2_; have GW117 := n3_; have GE117 := n4_; have NB116_117 := n5_; have NB117_116 := n6_; clear n0_ n1_ n2_ n3_ n4_ n5_ n6_; clear hb hbox hg; have hnb20 := NB116_117.out; have hnc20 := NB117_116.out; have hcz21_0 : w19.cell? ⟨gb116, 0, none⟩ = some (.int .i64 a0_0) := (zb BK116.out 0).trans rfl; have hcz21_1 : w19.cell? ⟨gb116, 1, none⟩ = some (.int .i64 a0_1) := (zb BK116.out 1).trans rfl; have hcz21_2 : w19.cell? ⟨gb116, 2, none⟩ = some (.int .i64 a0_2) := (zb BK116.out 2).trans rfl; have hcz21_3 : w19.cell? ⟨gb116, 3, none⟩ = some (.slice A0_3 l0_3.length c0_3) := (zb BK116.out 3).trans rfl; have hfz21_0 := za BK116.out 0; have hfz21_1 := za BK116.out 1; have hfz21_2 := za BK116.out 2; have hfz21_3 := za BK116.out 3; have hcz22_0 : w19.cell? ⟨gb117, 0, none⟩ = some (.int .i64 a1_0) := (zb BK117.out 0).trans rfl; have hcz22_1 : w19.cell? ⟨gb117, 1, none⟩ = some (.int .i64 a1_1) := (zb BK117.out 1).trans rfl; have hcz22_2 : w19.cell? ⟨gb117, 2, none⟩ = some (.int .i64 a1_2) := (zb BK117.out 2).trans rfl; have hcz22_3 : w19.cell? ⟨gb117, 3, none⟩ = some (.slice A1_3 l1_3.length c1_3) := (zb BK117.out 3).trans rfl; have hfz22_0 := za BK117.out 0; have hfz22_1 := za BK117.out 1; have hfz22_2 := za BK117.out 2; have hfz22_3 := za BK117.out 3))
    go_ret
    exact ⟨sqE, sqB⟩
  ·rw [if_neg c4] at H
   have c4b0 : (a0_1 == a1_1) = false := beq_eq_false_iff_ne.mpr c4
   have c4b1 : (a0_1 != a1_1) = true := bne_iff_ne.mpr c4
   obtain rfl := Option.some.inj H
   go_enter Try.func15, Try.ntmps15
   go_wp2_with (first | ((with_reducible refine zx (N := 2) rfl ?_); refine zy ?hg (N := 2) ?hd (cs := #[.int .i64 a0_0, .int .i64 a0_1, .int .i64 a0_2, .slice A0_3 l0_3.length c0_3]) (t := 27) ?hr ?_; (case hd => rfl); (case hg => rfl); (case hr => exact sqG); intro gb116 hg w23 hbox hb; have n0_ := Aside0.mk (zj sqB hb); have n1_ := Aside0.mk (hbox); have n2_ := Aside0.mk ((sqS hg : w.heap.size ≤ gb116)); have n3_ := Aside0.mk ((sqS hg : w.heap.size ≤ gb116)); clear HB; have HB := n0_; have BK116 := n1_; have GW116 := n2_; have GE116 := n3_; clear n0_ n1_ n2_ n3_; clear hb hbox hg) | ((with_reducible refine zx (N := 3) rfl ?_); refine zy ?hg (N := 3) ?hd (cs := #[.int .i64 a1_0, .int .i64 a1_1, .int .i64 a1_2, .slice A1_3 l1_3.length c1_3]) (t := 27) ?hr ?_; (case hd => rfl); (case hg => rfl); (case hr => exact sqG); intro gb117 hg w24 hbox hb; have n0_ := Aside0.mk (zq (g := gb116) (o := .cells #[.int .i64 a0_0, .int .i64 a0_1, .int .i64 a0_2, .slice A0_3 l0_3.length c0_3] 27 (0, 0)) (sqK BK116.out) hb); have n1_ := Aside0.mk (zj sqB hb); have n2_ := Aside0.mk (hbox); have n3_ := Aside0.mk ((sqS hg : w.heap.size ≤ gb117)); have n4_ := Aside0.mk ((sqS hg : w.heap.size ≤ gb117)); have n5_ := Aside0.mk ((by rw [hg]; exact Nat.ne_of_lt (zS (g := gb116) (o := .cells #[.int .i64 a0_0, .int .i64 a0_1, .int .i64 a0_2, .slice A0_3 l0_3.length c0_3] 27 (0, 0)) (sqK BK116.out)) : gb116 ≠ gb117)); have n6_ := Aside0.mk ((by rw [hg]; exact Nat.ne_of_gt (zS (g := gb116) (o := .cells #[.int .i64 a0_0, .int .i64 a0_1, .int .i64 a0_2, .slice A0_3 l0_3.length c0_3] 27 (0, 0)) (sqK BK116.out)) : gb117 ≠ gb116)); clear BK116; clear HB; have BK116 := n0_; have HB := n1_; have BK117 := n2_; have GW117 := n3_; have GE117 := n4_; have NB116_117 := n5_; have NB117_116 := n6_; clear n0_ n1_ n2_ n3_ n4_ n5_ n6_; clear hb hbox hg; have hnb25 := NB116_117.out; have hnc25 := NB117_116.out; have hcz26_0 : w24.cell? ⟨gb116, 0, none⟩ = some (.int .i64 a0_0) := (zb BK116.out 0).trans rfl; have hcz26_1 : w24.cell? ⟨gb116, 1, none⟩ = some (.int .i64 a0_1) := (zb BK116.out 1).trans rfl; have hcz26_2 : w24.cell? ⟨gb116, 2, none⟩ = some (.int .i64 a0_2) := (zb BK116.out 2).trans rfl; have hcz26_3 : w24.cell? ⟨gb116, 3, none⟩ = some (.slice A0_3 l0_3.length c0_3) := (zb BK116.out 3).trans rfl; have hfz26_0 := za BK116.out 0; have hfz26_1 := za BK116.out 1; have hfz26_2 := za BK116.out 2; have hfz26_3 := za BK116.out 3; have hcz27_0 : w24.cell? ⟨gb117, 0, none⟩ = some (.int .i64 a1_0) := (zb BK117.out 0).trans rfl; have hcz27_1 : w24.cell? ⟨gb117, 1, none⟩ = some (.int .i64 a1_1) := (zb BK117.out 1).trans rfl; have hcz27_2 : w24.cell? ⟨gb117, 2, none⟩ = some (.int .i64 a1_2) := (zb BK117.out 2).trans rfl; have hcz27_3 : w24.cell? ⟨gb117, 3, none⟩ = some (.slice A1_3 l1_3.length c1_3) := (zb BK117.out 3).trans rfl; have hfz27_0 := za BK117.out 0; have hfz27_1 := za BK117.out 1; have hfz27_2 := za BK117.out 2; have hfz27_3 := za BK117.out 3))
   go_ret
   exact ⟨sqE, sqB⟩
 ·rw [if_neg c3] at H
  have c3b0 : (a0_0 == a1_0) = false := beq_eq_false_iff_ne.mpr c3
  have c3b1 : (a0_0 != a1_0) = true := bne_iff_ne.mpr c3
  obtain rfl := Option.some.inj H
  go_enter Try.func15, Try.ntmps15
  go_wp2_with (first | ((with_reducible refine zx (N := 2) rfl ?_); refine zy ?hg (N := 2) ?hd (cs := #[.int .i64 a0_0, .int .i64 a0_1, .int .i64 a0_2, .slice A0_3 l0_3.length c0_3]) (t := 27) ?hr ?_; (case hd => rfl); (case hg => rfl); (case hr => exact sqG); intro gb116 hg w28 hbox hb; have n0_ := Aside0.mk (zj sqB hb); have n1_ := Aside0.mk (hbox); have n2_ := Aside0.mk ((sqS hg : w.heap.size ≤ gb116)); have n3_ := Aside0.mk ((sqS hg : w.heap.size ≤ gb116)); clear HB; have HB := n0_; have BK116 := n1_; have GW116 := n2_; have GE116 := n3_; clear n0_ n1_ n2_ n3_; clear hb hbox hg) | ((with_reducible refine zx (N := 3) rfl ?_); refine zy ?hg (N := 3) ?hd (cs := #[.int .i64 a1_0, .int .i64 a1_1, .int .i64 a1_2, .slice A1_3 l1_3.length c1_3]) (t := 27) ?hr ?_; (case hd => rfl); (case hg => rfl); (case hr => exact sqG); intro gb117 hg w29 hbox hb; have n0_ := Aside0.mk (zq (g := gb116) (o := .cells #[.int .i64 a0_0, .int .i64 a0_1, .int .i64 a0_2, .slice A0_3 l0_3.length c0_3] 27 (0, 0)) (sqK BK116.out) hb); have n1_ := Aside0.mk (zj sqB hb); have n2_ := Aside0.mk (hbox); have n3_ := Aside0.mk ((sqS hg : w.heap.size ≤ gb117)); have n4_ := Aside0.mk ((sqS hg : w.heap.size ≤ gb117)); have n5_ := Aside0.mk ((by rw [hg]; exact Nat.ne_of_lt (zS (g := gb116) (o := .cells #[.int .i64 a0_0, .int .i64 a0_1, .int .i64 a0_2, .slice A0_3 l0_3.length c0_3] 27 (0, 0)) (sqK BK116.out)) : gb116 ≠ gb117)); have n6_ := Aside0.mk ((by rw [hg]; exact Nat.ne_of_gt (zS (g := gb116) (o := .cells #[.int .i64 a0_0, .int .i64 a0_1, .int .i64 a0_2, .slice A0_3 l0_3.length c0_3] 27 (0, 0)) (sqK BK116.out)) : gb117 ≠ gb116)); clear BK116; clear HB; have BK116 := n0_; have HB := n1_; have BK117 := n2_; have GW117 := n3_; have GE117 := n4_; have NB116_117 := n5_; have NB117_116 := n6_; clear n0_ n1_ n2_ n3_ n4_ n5_ n6_; clear hb hbox hg; have hnb30 := NB116_117.out; have hnc30 := NB117_116.out; have hcz31_0 : w29.cell? ⟨gb116, 0, none⟩ = some (.int .i64 a0_0) := (zb BK116.out 0).trans rfl; have hcz31_1 : w29.cell? ⟨gb116, 1, none⟩ = some (.int .i64 a0_1) := (zb BK116.out 1).trans rfl; have hcz31_2 : w29.cell? ⟨gb116, 2, none⟩ = some (.int .i64 a0_2) := (zb BK116.out 2).trans rfl; have hcz31_3 : w29.cell? ⟨gb116, 3, none⟩ = some (.slice A0_3 l0_3.length c0_3) := (zb BK116.out 3).trans rfl; have hfz31_0 := za BK116.out 0; have hfz31_1 := za BK116.out 1; have hfz31_2 := za BK116.out 2; have hfz31_3 := za BK116.out 3; have hcz32_0 : w29.cell? ⟨gb117, 0, none⟩ = some (.int .i64 a1_0) := (zb BK117.out 0).trans rfl; have hcz32_1 : w29.cell? ⟨gb117, 1, none⟩ = some (.int .i64 a1_1) := (zb BK117.out 1).trans rfl; have hcz32_2 : w29.cell? ⟨gb117, 2, none⟩ = some (.int .i64 a1_2) := (zb BK117.out 2).trans rfl; have hcz32_3 : w29.cell? ⟨gb117, 3, none⟩ = some (.slice A1_3 l1_3.length c1_3) := (zb BK117.out 3).trans rfl; have hfz32_0 := za BK117.out 0; have hfz32_1 := za BK117.out 1; have hfz32_2 := za BK117.out 2; have hfz32_3 := za BK117.out 3))
  go_ret
  exact ⟨sqE, sqB⟩

def zu.f (a0 : Int) (a1 : Int) (a2 : Int) : Option (Bool) := if a0 ≥ a1 then (some (decide (a0 ≤ a2))) else (some false)
theorem zu.calls (a0 : Int) (a1 : Int) (a2 : Int) (r : Bool) (w : World) (h : zu.f a0 a1 a2 = some r) :
  Calls Try.prog 43 #[.int .i64 a0, .int .i64 a1, .int .i64 a2] w fun e w' => e = .returned (.bool r) ∧ zn w w' := by
 have H : (if a0 ≥ a1 then (some (decide (a0 ≤ a2))) else (some false)) = some r := h
 clear h
 by_cases c4 : a0 ≥ a1
 ·rw [if_pos c4] at H
  have c4b0 : decide (a1 ≤ a0) = true := decide_eq_true c4
  clear c4
  obtain rfl := Option.some.inj H
  go_enter Try.func43, Try.ntmps43
  go_wp2
  go_ret
  exact ⟨sqD, by repeat (first | exact zn.refl _ | apply zn.step)⟩
 ·rw [if_neg c4] at H
  have c4b0 : decide (a1 ≤ a0) = false := decide_eq_false c4
  clear c4
  obtain rfl := Option.some.inj H
  go_enter Try.func43, Try.ntmps43
  go_wp2
  go_ret
  exact ⟨sqD, by repeat (first | exact zn.refl _ | apply zn.step)⟩

def zD.f (a0 : Int) : Option (Bool) := if a0 = 2 then (some true) else (if a0 = 3 then (some true) else (if a0 = 5 then (some true) else (some (a0 == 7))))
theorem zD.calls (a0 : Int) (r : Bool) (w : World) (h : zD.f a0 = some r) :
  Calls Try.prog 66 #[.int .i64 a0] w fun e w' => e = .returned (.bool r) ∧ zn w w' := by
 have H : (if a0 = 2 then (some true) else (if a0 = 3 then (some true) else (if a0 = 5 then (some true) else (some (a0 == 7))))) = some r := h
 clear h
 by_cases c2 : a0 = 2
 ·rw [if_pos c2] at H
  have c2b0 : (a0 == 2) = true := beq_iff_eq.mpr c2
  have c2b1 : (a0 != 2) = false := bne_eq_false_iff_eq.mpr c2
  clear c2
  obtain rfl := Option.some.inj H
  go_enter Try.func66, Try.ntmps66
  go_wp2
  go_ret
  exact ⟨sqD, by repeat (first | exact zn.refl _ | apply zn.step)⟩
 ·rw [if_neg c2] at H
  have c2b0 : (a0 == 2) = false := beq_eq_false_iff_ne.mpr c2
  have c2b1 : (a0 != 2) = true := bne_iff_ne.mpr c2
  by_cases c3 : a0 = 3
  ·rw [if_pos c3] at H
   have c3b0 : (a0 == 3) = true := beq_iff_eq.mpr c3
   have c3b1 : (a0 != 3) = false := bne_eq_false_iff_eq.mpr c3
   clear c3
   obtain rfl := Option.some.inj H
   go_enter Try.func66, Try.ntmps66
   go_wp2
   go_ret
   exact ⟨sqD, by repeat (first | exact zn.refl _ | apply zn.step)⟩
  ·rw [if_neg c3] at H
   have c3b0 : (a0 == 3) = false := beq_eq_false_iff_ne.mpr c3
   have c3b1 : (a0 != 3) = true := bne_iff_ne.mpr c3
   by_cases c4 : a0 = 5
   ·rw [if_pos c4] at H
    have c4b0 : (a0 == 5) = true := beq_iff_eq.mpr c4
    have c4b1 : (a0 != 5) = false := bne_eq_false_iff_eq.mpr c4
    clear c4
    obtain rfl := Option.some.inj H
    go_enter Try.func66, Try.ntmps66
    go_wp2
    go_ret
    exact ⟨sqD, by repeat (first | exact zn.refl _ | apply zn.step)⟩
   ·rw [if_neg c4] at H
    have c4b0 : (a0 == 5) = false := beq_eq_false_iff_ne.mpr c4
    have c4b1 : (a0 != 5) = true := bne_iff_ne.mpr c4
    obtain rfl := Option.some.inj H
    go_enter Try.func66, Try.ntmps66
    go_wp2
    go_ret
    exact ⟨sqD, by repeat (first | exact zn.refl _ | apply zn.step)⟩

mutual
def zi.j0 : Nat → Bool → Int → Int → Int → List Int → Option (Bool)
 | 0, _, _, _, _, _ => none
 | k + 1, x30, x127000, x127001, x127002, x127003 => if x30 = true then (some false) else (zi.l0 k 0 x127000 x127001 x127002 x127003)
def zi.l0 : Nat → Int → Int → Int → Int → List Int → Option (Bool)
 | 0, _, _, _, _, _ => none
 | k + 1, x3, x127000, x127001, x127002, x127003 => if x3 < (x127003.length : Int) then (if 0 ≤ x3 then ((zu.f (rd x127003 x3) 0 (wrap64 (x127000 - 1))).bind fun t131 => (if t131 = true then (zi.l0 k (wrap64 (x3 + 1)) x127000 x127001 x127002 x127003) else (some false))) else (none)) else (some true)
end
def zi.f (k : Nat) (a0_0 : Int) (a0_1 : Int) (a0_2 : Int) (l0_3 : List Int) : Option (Bool) := (zD.f a0_0).bind fun t127 => (if t127 = true then ((zu.f a0_1 0 8).bind fun t128 => (if t128 = true then ((zu.f a0_2 0 8).bind fun t129 => (if t129 = true then (zi.j0 k ((l0_3.length : Int) != (wrap64 (a0_1 * a0_2))) a0_0 a0_1 a0_2 l0_3) else (zi.j0 k true a0_0 a0_1 a0_2 l0_3))) else (zi.j0 k true a0_0 a0_1 a0_2 l0_3))) else (zi.j0 k true a0_0 a0_1 a0_2 l0_3))
theorem zi.calls (k : Nat) (a0_0 : Int) (a0_1 : Int) (a0_2 : Int) (A0_3 : Option Addr) (c0_3 : Nat) (l0_3 : List Int) (r : Bool) (w : World) (hr0_3 : Kd.C (Kd.int .i64) w A0_3 l0_3.length l0_3) (hc0_3 : l0_3.length ≤ c0_3) (h : zi.f k a0_0 a0_1 a0_2 l0_3 = some r) :
  Calls Try.prog 37 #[.agg #[.int .i64 a0_0, .int .i64 a0_1, .int .i64 a0_2, .slice A0_3 l0_3.length c0_3]] w fun e w' => e = .returned (.bool r) ∧ Below w.heap.size w w' := by
 have hu27 := Try.underlying27
 have HR0_3 := Aside0.mk hr0_3
 have HC0_3 := Aside0.mk hc0_3
 clear hr0_3 hc0_3
 have HB := Aside0.mk (Below.refl w.heap.size w)
 have H : ((zD.f a0_0).bind fun t127 => (if t127 = true then ((zu.f a0_1 0 8).bind fun t128 => (if t128 = true then ((zu.f a0_2 0 8).bind fun t129 => (if t129 = true then (zi.j0 k ((l0_3.length : Int) != (wrap64 (a0_1 * a0_2))) a0_0 a0_1 a0_2 l0_3) else (zi.j0 k true a0_0 a0_1 a0_2 l0_3))) else (zi.j0 k true a0_0 a0_1 a0_2 l0_3))) else (zi.j0 k true a0_0 a0_1 a0_2 l0_3))) = some r := h
 clear h
 have HC2 := Aside0.mk H
 clear H
 go_enter Try.func37, Try.ntmps37
 go_upto_region 1 with (first | ((with_reducible refine zx (N := 1) rfl ?_); (try (refine vE (by rfl) ?_; dsimp only)); refine zy ?hg (N := 1) ?hd (cs := #[.int .i64 a0_0, .int .i64 a0_1, .int .i64 a0_2, .slice A0_3 l0_3.length c0_3]) (t := 27) ?hr ?_; (case hd => rfl); (case hg => rfl); (case hr => exact sqG); intro gb126 hg w3 hbox hb; have n0_ := Aside0.mk (zj sqB hb); have n1_ := Aside0.mk (hbox); have n2_ := Aside0.mk ((sqS hg : w.heap.size ≤ gb126)); have n3_ := Aside0.mk ((sqS hg : w.heap.size ≤ gb126)); clear HB; have HB := n0_; have BK126 := n1_; have GW126 := n2_; have GE126 := n3_; clear n0_ n1_ n2_ n3_; clear hb hbox hg))
 repeat (go_quiet (first | ((with_reducible refine zx (N := 1) rfl ?_); (try (refine vE (by rfl) ?_; dsimp only)); refine zy ?hg (N := 1) ?hd (cs := #[.int .i64 a0_0, .int .i64 a0_1, .int .i64 a0_2, .slice A0_3 l0_3.length c0_3]) (t := 27) ?hr ?_; (case hd => rfl); (case hg => rfl); (case hr => exact sqG); intro gb126 hg w3 hbox hb; have n0_ := Aside0.mk (zj sqB hb); have n1_ := Aside0.mk (hbox); have n2_ := Aside0.mk ((sqS hg : w.heap.size ≤ gb126)); have n3_ := Aside0.mk ((sqS hg : w.heap.size ≤ gb126)); clear HB; have HB := n0_; have BK126 := n1_; have GW126 := n2_; have GE126 := n3_; clear n0_ n1_ n2_ n3_; clear hb hbox hg)); go_upto_region 1 with (first | ((with_reducible refine zx (N := 1) rfl ?_); (try (refine vE (by rfl) ?_; dsimp only)); refine zy ?hg (N := 1) ?hd (cs := #[.int .i64 a0_0, .int .i64 a0_1, .int .i64 a0_2, .slice A0_3 l0_3.length c0_3]) (t := 27) ?hr ?_; (case hd => rfl); (case hg => rfl); (case hr => exact sqG); intro gb126 hg w3 hbox hb; have n0_ := Aside0.mk (zj sqB hb); have n1_ := Aside0.mk (hbox); have n2_ := Aside0.mk ((sqS hg : w.heap.size ≤ gb126)); have n3_ := Aside0.mk ((sqS hg : w.heap.size ≤ gb126)); clear HB; have HB := n0_; have BK126 := n1_; have GW126 := n2_; have GE126 := n3_; clear n0_ n1_ n2_ n3_; clear hb hbox hg)))
 (try simp only [Act.put, List.setIfInBounds_toArray, List.set_cons_zero, List.set_cons_succ])
 go_cut [30] (fun v30 wc => ∃ (kq : Nat) (x30_1 : Bool), v30 = .bool x30_1 ∧ Aside0 (zi.j0 kq x30_1 a0_0 a0_1 a0_2 l0_3 = some r) ∧ Aside0 (kq ≤ k) ∧ Aside0 (wc.heap[gb126]? = some (.cells #[.int .i64 a0_0, .int .i64 a0_1, .int .i64 a0_2, (.slice A0_3 l0_3.length c0_3)] 27 (0, 0))) ∧ Aside0 (Below w.heap.size w wc))
 case first =>
  have H := HC2.out
  clear HC2
  replace H := Option.bind_eq_some_iff.mp H
  obtain ⟨t127, A40, H⟩ := H
  replace H : (if t127 = true then ((zu.f a0_1 0 8).bind fun t128 => (if t128 = true then ((zu.f a0_2 0 8).bind fun t129 => (if t129 = true then (zi.j0 k ((l0_3.length : Int) != (wrap64 (a0_1 * a0_2))) a0_0 a0_1 a0_2 l0_3) else (zi.j0 k true a0_0 a0_1 a0_2 l0_3))) else (zi.j0 k true a0_0 a0_1 a0_2 l0_3))) else (zi.j0 k true a0_0 a0_1 a0_2 l0_3)) = some r := H
  have A4 := Aside0.mk A40
  clear A40
  by_cases c5 : t127 = true
  ·subst c5
   have H1 : ((zu.f a0_1 0 8).bind fun t128 => (if t128 = true then ((zu.f a0_2 0 8).bind fun t129 => (if t129 = true then (zi.j0 k ((l0_3.length : Int) != (wrap64 (a0_1 * a0_2))) a0_0 a0_1 a0_2 l0_3) else (zi.j0 k true a0_0 a0_1 a0_2 l0_3))) else (zi.j0 k true a0_0 a0_1 a0_2 l0_3))) = some r := by rw [if_pos rfl] at H; exact H
   clear H
   have H := H1
   clear H1
   replace H := Option.bind_eq_some_iff.mp H
   obtain ⟨t128, A60, H⟩ := H
   replace H : (if t128 = true then ((zu.f a0_2 0 8).bind fun t129 => (if t129 = true then (zi.j0 k ((l0_3.length : Int) != (wrap64 (a0_1 * a0_2))) a0_0 a0_1 a0_2 l0_3) else (zi.j0 k true a0_0 a0_1 a0_2 l0_3))) else (zi.j0 k true a0_0 a0_1 a0_2 l0_3)) = some r := H
   have A6 := Aside0.mk A60
   clear A60
   by_cases c7 : t128 = true
   ·subst c7
    have H1 : ((zu.f a0_2 0 8).bind fun t129 => (if t129 = true then (zi.j0 k ((l0_3.length : Int) != (wrap64 (a0_1 * a0_2))) a0_0 a0_1 a0_2 l0_3) else (zi.j0 k true a0_0 a0_1 a0_2 l0_3))) = some r := by rw [if_pos rfl] at H; exact H
    clear H
    have H := H1
    clear H1
    replace H := Option.bind_eq_some_iff.mp H
    obtain ⟨t129, A80, H⟩ := H
    replace H : (if t129 = true then (zi.j0 k ((l0_3.length : Int) != (wrap64 (a0_1 * a0_2))) a0_0 a0_1 a0_2 l0_3) else (zi.j0 k true a0_0 a0_1 a0_2 l0_3)) = some r := H
    have A8 := Aside0.mk A80
    clear A80
    by_cases c9 : t129 = true
    ·subst c9
     have H1 : (zi.j0 k ((l0_3.length : Int) != (wrap64 (a0_1 * a0_2))) a0_0 a0_1 a0_2 l0_3) = some r := by rw [if_pos rfl] at H; exact H
     clear H
     have H := H1
     clear H1
     have H' := Aside0.mk H
     clear H
     have hcz10_0 : w3.cell? ⟨gb126, 0, none⟩ = some (.int .i64 a0_0) := (zb BK126.out 0).trans rfl
     have hcz10_1 : w3.cell? ⟨gb126, 1, none⟩ = some (.int .i64 a0_1) := (zb BK126.out 1).trans rfl
     have hcz10_2 : w3.cell? ⟨gb126, 2, none⟩ = some (.int .i64 a0_2) := (zb BK126.out 2).trans rfl
     have hcz10_3 : w3.cell? ⟨gb126, 3, none⟩ = some (.slice A0_3 l0_3.length c0_3) := (zb BK126.out 3).trans rfl
     have hfz10_0 := za BK126.out 0; have hfz10_1 := za BK126.out 1; have hfz10_2 := za BK126.out 2; have hfz10_3 := za BK126.out 3
     go_wp2_with (first | (go_at_call 66; (try simp only [zd, zf]); (with_reducible refine (zD.calls a0_0 true _ A4.out).mono ?_); rintro e w' ⟨rfl, ⟨nd, rfl⟩⟩; (try first | exact ⟨rfl, _, World.drewN_drewN _ _ _⟩ | exact ⟨rfl, _, Eq.trans (World.drewN_drewN _ _ _) (congrArg (World.drewN _) (Nat.add_assoc _ _ _))⟩)) | (go_at_call 43; (try simp only [zd, zf]); (with_reducible refine (zu.calls a0_1 0 8 true _ A6.out).mono ?_); rintro e w' ⟨rfl, ⟨nd, rfl⟩⟩; (try first | exact ⟨rfl, _, World.drewN_drewN _ _ _⟩ | exact ⟨rfl, _, Eq.trans (World.drewN_drewN _ _ _) (congrArg (World.drewN _) (Nat.add_assoc _ _ _))⟩)) | (go_at_call 43; (try simp only [zd, zf]); (with_reducible refine (zu.calls a0_2 0 8 true _ A8.out).mono ?_); rintro e w' ⟨rfl, ⟨nd, rfl⟩⟩; (try first | exact ⟨rfl, _, World.drewN_drewN _ _ _⟩ | exact ⟨rfl, _, Eq.trans (World.drewN_drewN _ _ _) (congrArg (World.drewN _) (Nat.add_assoc _ _ _))⟩)))
     repeat (go_quiet (first | (go_at_call 66; (try simp only [zd, zf]); (with_reducible refine (zD.calls a0_0 true _ A4.out).mono ?_); rintro e w' ⟨rfl, ⟨nd, rfl⟩⟩; (try first | exact ⟨rfl, _, World.drewN_drewN _ _ _⟩ | exact ⟨rfl, _, Eq.trans (World.drewN_drewN _ _ _) (congrArg (World.drewN _) (Nat.add_assoc _ _ _))⟩)) | (go_at_call 43; (try simp only [zd, zf]); (with_reducible refine (zu.calls a0_1 0 8 true _ A6.out).mono ?_); rintro e w' ⟨rfl, ⟨nd, rfl⟩⟩; (try first | exact ⟨rfl, _, World.drewN_drewN _ _ _⟩ | exact ⟨rfl, _, Eq.trans (World.drewN_drewN _ _ _) (congrArg (World.drewN _) (Nat.add_assoc _ _ _))⟩)) | (go_at_call 43; (try simp only [zd, zf]); (with_reducible refine (zu.calls a0_2 0 8 true _ A8.out).mono ?_); rintro e w' ⟨rfl, ⟨nd, rfl⟩⟩; (try first | exact ⟨rfl, _, World.drewN_drewN _ _ _⟩ | exact ⟨rfl, _, Eq.trans (World.drewN_drewN _ _ _) (congrArg (World.drewN _) (Nat.add_assoc _ _ _))⟩))); try go_wp2_with (first | (go_at_call 66; (try simp only [zd, zf]); (with_reducible refine (zD.calls a0_0 true _ A4.out).mono ?_); rintro e w' ⟨rfl, ⟨nd, rfl⟩⟩; (try first | exact ⟨rfl, _, World.drewN_drewN _ _ _⟩ | exact ⟨rfl, _, Eq.trans (World.drewN_drewN _ _ _) (congrArg (World.drewN _) (Nat.add_assoc _ _ _))⟩)) | (go_at_call 43; (try simp only [zd, zf]); (with_reducible refine (zu.calls a0_1 0 8 true _ A6.out).mono ?_); rintro e w' ⟨rfl, ⟨nd, rfl⟩⟩; (try first | exact ⟨rfl, _, World.drewN_drewN _ _ _⟩ | exact ⟨rfl, _, Eq.trans (World.drewN_drewN _ _ _) (congrArg (World.drewN _) (Nat.add_assoc _ _ _))⟩)) | (go_at_call 43; (try simp only [zd, zf]); (with_reducible refine (zu.calls a0_2 0 8 true _ A8.out).mono ?_); rintro e w' ⟨rfl, ⟨nd, rfl⟩⟩; (try first | exact ⟨rfl, _, World.drewN_drewN _ _ _⟩ | exact ⟨rfl, _, Eq.trans (World.drewN_drewN _ _ _) (congrArg (World.drewN _) (Nat.add_assoc _ _ _))⟩))))
     go_meet
     case rel => exact ⟨_, (((l0_3.length : Int) != (wrap64 (a0_1 * a0_2)))), (by first | rfl | (simp only [zd, zf]; done) | (simp; done) | (simp [*]; done)), H', ⟨by first | omega | exact Nat.le_refl _⟩, ⟨sqK BK126.out⟩, ⟨sqB⟩⟩
    ·replace c9 := Bool.eq_false_iff.mpr c9
     subst c9
     have H1 : (zi.j0 k true a0_0 a0_1 a0_2 l0_3) = some r := by rw [if_neg (show ¬ (false = true) by decide)] at H; exact H
     clear H
     have H := H1
     clear H1
     have H' := Aside0.mk H
     clear H
     have hcz11_0 : w3.cell? ⟨gb126, 0, none⟩ = some (.int .i64 a0_0) := (zb BK126.out 0).trans rfl
     have hcz11_1 : w3.cell? ⟨gb126, 1, none⟩ = some (.int .i64 a0_1) := (zb BK126.out 1).trans rfl
     have hcz11_2 : w3.cell? ⟨gb126, 2, none⟩ = some (.int .i64 a0_2) := (zb BK126.out 2).trans rfl
     have hcz11_3 : w3.cell? ⟨gb126, 3, none⟩ = some (.slice A0_3 l0_3.length c0_3) := (zb BK126.out 3).trans rfl
     have hfz11_0 := za BK126.out 0; have hfz11_1 := za BK126.out 1; have hfz11_2 := za BK126.out 2; have hfz11_3 := za BK126.out 3
     go_wp2_with (first | (go_at_call 66; (try simp only [zd, zf]); (with_reducible refine (zD.calls a0_0 true _ A4.out).mono ?_); rintro e w' ⟨rfl, ⟨nd, rfl⟩⟩; (try first | exact ⟨rfl, _, World.drewN_drewN _ _ _⟩ | exact ⟨rfl, _, Eq.trans (World.drewN_drewN _ _ _) (congrArg (World.drewN _) (Nat.add_assoc _ _ _))⟩)) | (go_at_call 43; (try simp only [zd, zf]); (with_reducible refine (zu.calls a0_1 0 8 true _ A6.out).mono ?_); rintro e w' ⟨rfl, ⟨nd, rfl⟩⟩; (try first | exact ⟨rfl, _, World.drewN_drewN _ _ _⟩ | exact ⟨rfl, _, Eq.trans (World.drewN_drewN _ _ _) (congrArg (World.drewN _) (Nat.add_assoc _ _ _))⟩)) | (go_at_call 43; (try simp only [zd, zf]); (with_reducible refine (zu.calls a0_2 0 8 false _ A8.out).mono ?_); rintro e w' ⟨rfl, ⟨nd, rfl⟩⟩; (try first | exact ⟨rfl, _, World.drewN_drewN _ _ _⟩ | exact ⟨rfl, _, Eq.trans (World.drewN_drewN _ _ _) (congrArg (World.drewN _) (Nat.add_assoc _ _ _))⟩)))
     repeat (go_quiet (first | (go_at_call 66; (try simp only [zd, zf]); (with_reducible refine (zD.calls a0_0 true _ A4.out).mono ?_); rintro e w' ⟨rfl, ⟨nd, rfl⟩⟩; (try first | exact ⟨rfl, _, World.drewN_drewN _ _ _⟩ | exact ⟨rfl, _, Eq.trans (World.drewN_drewN _ _ _) (congrArg (World.drewN _) (Nat.add_assoc _ _ _))⟩)) | (go_at_call 43; (try simp only [zd, zf]); (with_reducible refine (zu.calls a0_1 0 8 true _ A6.out).mono ?_); rintro e w' ⟨rfl, ⟨nd, rfl⟩⟩; (try first | exact ⟨rfl, _, World.drewN_drewN _ _ _⟩ | exact ⟨rfl, _, Eq.trans (World.drewN_drewN _ _ _) (congrArg (World.drewN _) (Nat.add_assoc _ _ _))⟩)) | (go_at_call 43; (try simp only [zd, zf]); (with_reducible refine (zu.calls a0_2 0 8 false _ A8.out).mono ?_); rintro e w' ⟨rfl, ⟨nd, rfl⟩⟩; (try first | exact ⟨rfl, _, World.drewN_drewN _ _ _⟩ | exact ⟨rfl, _, Eq.trans (World.drewN_drewN _ _ _) (congrArg (World.drewN _) (Nat.add_assoc _ _ _))⟩))); try go_wp2_with (first | (go_at_call 66; (try simp only [zd, zf]); (with_reducible refine (zD.calls a0_0 true _ A4.out).mono ?_); rintro e w' ⟨rfl, ⟨nd, rfl⟩⟩; (try first | exact ⟨rfl, _, World.drewN_drewN _ _ _⟩ | exact ⟨rfl, _, Eq.trans (World.drewN_drewN _ _ _) (congrArg (World.drewN _) (Nat.add_assoc _ _ _))⟩)) | (go_at_call 43; (try simp only [zd, zf]); (with_reducible refine (zu.calls a0_1 0 8 true _ A6.out).mono ?_); rintro e w' ⟨rfl, ⟨nd, rfl⟩⟩; (try first | exact ⟨rfl, _, World.drewN_drewN _ _ _⟩ | exact ⟨rfl, _, Eq.trans (World.drewN_drewN _ _ _) (congrArg (World.drewN _) (Nat.add_assoc _ _ _))⟩)) | (go_at_call 43; (try simp only [zd, zf]); (with_reducible refine (zu.calls a0_2 0 8 false _ A8.out).mono ?_); rintro e w' ⟨rfl, ⟨nd, rfl⟩⟩; (try first | exact ⟨rfl, _, World.drewN_drewN _ _ _⟩ | exact ⟨rfl, _, Eq.trans (World.drewN_drewN _ _ _) (congrArg (World.drewN _) (Nat.add_assoc _ _ _))⟩))))
     go_meet
     case rel => exact ⟨_, (true), (sqD), H', ⟨by first | omega | exact Nat.le_refl _⟩, ⟨sqK BK126.out⟩, ⟨sqB⟩⟩
   ·replace c7 := Bool.eq_false_iff.mpr c7
    subst c7
    have H1 : (zi.j0 k true a0_0 a0_1 a0_2 l0_3) = some r := by rw [if_neg (show ¬ (false = true) by decide)] at H; exact H
    clear H
    have H := H1
    clear H1
    have H' := Aside0.mk H
    clear H
    have hcz12_0 : w3.cell? ⟨gb126, 0, none⟩ = some (.int .i64 a0_0) := (zb BK126.out 0).trans rfl
    have hcz12_1 : w3.cell? ⟨gb126, 1, none⟩ = some (.int .i64 a0_1) := (zb BK126.out 1).trans rfl
    have hcz12_2 : w3.cell? ⟨gb126, 2, none⟩ = some (.int .i64 a0_2) := (zb BK126.out 2).trans rfl
    have hcz12_3 : w3.cell? ⟨gb126, 3, none⟩ = some (.slice A0_3 l0_3.length c0_3) := (zb BK126.out 3).trans rfl
    have hfz12_0 := za BK126.out 0; have hfz12_1 := za BK126.out 1; have hfz12_2 := za BK126.out 2; have hfz12_3 := za BK126.out 3
    go_wp2_with (first | (go_at_call 66; (try simp only [zd, zf]); (with_reducible refine (zD.calls a0_0 true _ A4.out).mono ?_); rintro e w' ⟨rfl, ⟨nd, rfl⟩⟩; (try first | exact ⟨rfl, _, World.drewN_drewN _ _ _⟩ | exact ⟨rfl, _, Eq.trans (World.drewN_drewN _ _ _) (congrArg (World.drewN _) (Nat.add_assoc _ _ _))⟩)) | (go_at_call 43; (try simp only [zd, zf]); (with_reducible refine (zu.calls a0_1 0 8 false _ A6.out).mono ?_); rintro e w' ⟨rfl, ⟨nd, rfl⟩⟩; (try first | exact ⟨rfl, _, World.drewN_drewN _ _ _⟩ | exact ⟨rfl, _, Eq.trans (World.drewN_drewN _ _ _) (congrArg (World.drewN _) (Nat.add_assoc _ _ _))⟩)))
    repeat (go_quiet (first | (go_at_call 66; (try simp only [zd, zf]); (with_reducible refine (zD.calls a0_0 true _ A4.out).mono ?_); rintro e w' ⟨rfl, ⟨nd, rfl⟩⟩; (try first | exact ⟨rfl, _, World.drewN_drewN _ _ _⟩ | exact ⟨rfl, _, Eq.trans (World.drewN_drewN _ _ _) (congrArg (World.drewN _) (Nat.add_assoc _ _ _))⟩)) | (go_at_call 43; (try simp only [zd, zf]); (with_reducible refine (zu.calls a0_1 0 8 false _ A6.out).mono ?_); rintro e w' ⟨rfl, ⟨nd, rfl⟩⟩; (try first | exact ⟨rfl, _, World.drewN_drewN _ _ _⟩ | exact ⟨rfl, _, Eq.trans (World.drewN_drewN _ _ _) (congrArg (World.drewN _) (Nat.add_assoc _ _ _))⟩))); try go_wp2_with (first | (go_at_call 66; (try simp only [zd, zf]); (with_reducible refine (zD.calls a0_0 true _ A4.out).mono ?_); rintro e w' ⟨rfl, ⟨nd, rfl⟩⟩; (try first | exact ⟨rfl, _, World.drewN_drewN _ _ _⟩ | exact ⟨rfl, _, Eq.trans (World.drewN_drewN _ _ _) (congrArg (World.drewN _) (Nat.add_assoc _ _ _))⟩)) | (go_at_call 43; (try simp only [zd, zf]); (with_reducible refine (zu.calls a0_1 0 8 false _ A6.out).mono ?_); rintro e w' ⟨rfl, ⟨nd, rfl⟩⟩; (try first | exact ⟨rfl, _, World.drewN_drewN _ _ _⟩ | exact ⟨rfl, _, Eq.trans (World.drewN_drewN _ _ _) (congrArg (World.drewN _) (Nat.add_assoc _ _ _))⟩))))
    go_meet
    case rel => exact ⟨_, (true), (sqD), H', ⟨by first | omega | exact Nat.le_refl _⟩, ⟨sqK BK126.out⟩, ⟨sqB⟩⟩
  ·replace c5 := Bool.eq_false_iff.mpr c5
   subst c5
   have H1 : (zi.j0 k true a0_0 a0_1 a0_2 l0_3) = some r := by rw [if_neg (show ¬ (false = true) by decide)] at H; exact H
   clear H
   have H := H1
   clear H1
   have H' := Aside0.mk H
   clear H
   have hcz13_0 : w3.cell? ⟨gb126, 0, none⟩ = some (.int .i64 a0_0) := (zb BK126.out 0).trans rfl
   have hcz13_1 : w3.cell? ⟨gb126, 1, none⟩ = some (.int .i64 a0_1) := (zb BK126.out 1).trans rfl
   have hcz13_2 : w3.cell? ⟨gb126, 2, none⟩ = some (.int .i64 a0_2) := (zb BK126.out 2).trans rfl
   have hcz13_3 : w3.cell? ⟨gb126, 3, none⟩ = some (.slice A0_3 l0_3.length c0_3) := (zb BK126.out 3).trans rfl
   have hfz13_0 := za BK126.out 0; have hfz13_1 := za BK126.out 1; have hfz13_2 := za BK126.out 2; have hfz13_3 := za BK126.out 3
   go_wp2_with (first | (go_at_call 66; (try simp only [zd, zf]); (with_reducible refine (zD.calls a0_0 false _ A4.out).mono ?_); rintro e w' ⟨rfl, ⟨nd, rfl⟩⟩; (try first | exact ⟨rfl, _, World.drewN_drewN _ _ _⟩ | exact ⟨rfl, _, Eq.trans (World.drewN_drewN _ _ _) (congrArg (World.drewN _) (Nat.add_assoc _ _ _))⟩)))
   repeat (go_quiet (first | (go_at_call 66; (try simp only [zd, zf]); (with_reducible refine (zD.calls a0_0 false _ A4.out).mono ?_); rintro e w' ⟨rfl, ⟨nd, rfl⟩⟩; (try first | exact ⟨rfl, _, World.drewN_drewN _ _ _⟩ | exact ⟨rfl, _, Eq.trans (World.drewN_drewN _ _ _) (congrArg (World.drewN _) (Nat.add_assoc _ _ _))⟩))); try go_wp2_with (first | (go_at_call 66; (try simp only [zd, zf]); (with_reducible refine (zD.calls a0_0 false _ A4.out).mono ?_); rintro e w' ⟨rfl, ⟨nd, rfl⟩⟩; (try first | exact ⟨rfl, _, World.drewN_drewN _ _ _⟩ | exact ⟨rfl, _, Eq.trans (World.drewN_drewN _ _ _) (congrArg (World.drewN _) (Nat.add_assoc _ _ _))⟩))))
   go_meet
   case rel => exact ⟨_, (true), (sqD), H', ⟨by first | omega | exact Nat.le_refl _⟩, ⟨sqK BK126.out⟩, ⟨sqB⟩⟩
 case rest =>
  clear HC2
  try clear p2
  try clear c3
  try clear c5
  try clear p6
  try clear c7
  try clear c9
  try clear hcz10_0
  try clear hcz10_1
  try clear hcz10_2
  try clear hcz10_3
  try clear hcz11_0
  try clear hcz11_1
  try clear hcz11_2
  try clear hcz11_3
  try clear hcz12_0
  try clear hcz12_1
  try clear hcz12_2
  try clear hcz12_3
  try clear hcz13_0
  try clear hcz13_1
  try clear hcz13_2
  try clear hcz13_3
  try clear hfz10_0
  try clear hfz10_1
  try clear hfz10_2
  try clear hfz10_3
  try clear hfz11_0
  try clear hfz11_1
  try clear hfz11_2
  try clear hfz11_3
  try clear hfz12_0
  try clear hfz12_1
  try clear hfz12_2
  try clear hfz12_3
  try clear hfz13_0
  try clear hfz13_1
  try clear hfz13_2
  try clear hfz13_3
  obtain ⟨kq, x30_1, rfl, HA, HJ1, BK126, HB⟩ := hcut
  cases kq with
  | zero => exact absurd HA.out (by simp [zi.j0])
  | succ kj1 =>
   have H := HA.out
   clear HA
   simp only [zi.j0] at H
   by_cases c14 : x30_1 = true
   ·subst c14
    have H1 : (some false) = some r := by rw [if_pos rfl] at H; exact H
    clear H
    have H := H1
    clear H1
    obtain rfl := Option.some.inj H
    go_wp2
    repeat (go_quiet (fail); try go_wp2)
    go_ret
    exact ⟨sqE, sqB⟩
   ·replace c14 := Bool.eq_false_iff.mpr c14
    subst c14
    have H1 : (zi.l0 kj1 0 a0_0 a0_1 a0_2 l0_3) = some r := by rw [if_neg (show ¬ (false = true) by decide)] at H; exact H
    clear H
    have H := H1
    clear H1
    have H' := Aside0.mk H
    clear H
    go_wp2
    repeat (go_quiet (fail); try go_wp2)
    go_loopg [3] kj1 (fun kq v3 w' => ∃ (x3_2 : Int), v3 = .int .i64 x3_2 ∧ Aside0 (zi.l0 kq x3_2 a0_0 a0_1 a0_2 l0_3 = some r) ∧ Aside0 (kq ≤ kj1) ∧ Aside0 (w'.heap[gb126]? = some (.cells #[.int .i64 a0_0, .int .i64 a0_1, .int .i64 a0_2, (.slice A0_3 l0_3.length c0_3)] 27 (0, 0))) ∧ Aside0 (Below w.heap.size w w'))
    case atStart => exact ⟨(0), (sqD), H', ⟨Nat.le_refl _⟩, ⟨sqK BK126.out⟩, ⟨sqB⟩⟩
    case round =>
     clear H'
     try clear c1
     try clear p2
     try clear c3
     try clear c5
     try clear p6
     try clear c7
     try clear c9
     try clear c14
     try clear hcz10_0
     try clear hcz10_1
     try clear hcz10_2
     try clear hcz10_3
     try clear hcz11_0
     try clear hcz11_1
     try clear hcz11_2
     try clear hcz11_3
     try clear hcz12_0
     try clear hcz12_1
     try clear hcz12_2
     try clear hcz12_3
     try clear hcz13_0
     try clear hcz13_1
     try clear hcz13_2
     try clear hcz13_3
     try clear hfz10_0
     try clear hfz10_1
     try clear hfz10_2
     try clear hfz10_3
     try clear hfz11_0
     try clear hfz11_1
     try clear hfz11_2
     try clear hfz11_3
     try clear hfz12_0
     try clear hfz12_1
     try clear hfz12_2
     try clear hfz12_3
     try clear hfz13_0
     try clear hfz13_1
     try clear hfz13_2
     try clear hfz13_3
     try clear p2
     try clear p6
     obtain ⟨x3_2, rfl, HA, HK2, BK126, HB⟩ := hrel
     cases gk with
     | zero => exact absurd HA.out (by simp [zi.l0])
     | succ k2 =>
      have H := HA.out
      clear HA
      simp only [zi.l0] at H
      by_cases c15 : x3_2 < (l0_3.length : Int)
      ·rw [if_pos c15] at H
       have c15b0 : decide (x3_2 < (l0_3.length : Int)) = true := decide_eq_true c15
       clear c15
       by_cases c16 : 0 ≤ x3_2
       ·rw [if_pos c16] at H
        have c16b0 : decide (0 ≤ x3_2) = true := decide_eq_true c16
        clear c16
        replace H := Option.bind_eq_some_iff.mp H
        obtain ⟨t131, A170, H⟩ := H
        replace H : (if t131 = true then (zi.l0 k2 (wrap64 (x3_2 + 1)) a0_0 a0_1 a0_2 l0_3) else (some false)) = some r := H
        have A17 := Aside0.mk A170
        clear A170
        by_cases c18 : t131 = true
        ·subst c18
         have H1 : (zi.l0 k2 (wrap64 (x3_2 + 1)) a0_0 a0_1 a0_2 l0_3) = some r := by rw [if_pos rfl] at H; exact H
         clear H
         have H := H1
         clear H1
         have H' := Aside0.mk H
         clear H
         have hcz19_0 : wr.cell? ⟨gb126, 0, none⟩ = some (.int .i64 a0_0) := (zb BK126.out 0).trans rfl
         have hcz19_1 : wr.cell? ⟨gb126, 1, none⟩ = some (.int .i64 a0_1) := (zb BK126.out 1).trans rfl
         have hcz19_2 : wr.cell? ⟨gb126, 2, none⟩ = some (.int .i64 a0_2) := (zb BK126.out 2).trans rfl
         have hcz19_3 : wr.cell? ⟨gb126, 3, none⟩ = some (.slice A0_3 l0_3.length c0_3) := (zb BK126.out 3).trans rfl
         have hfz19_0 := za BK126.out 0; have hfz19_1 := za BK126.out 1; have hfz19_2 := za BK126.out 2; have hfz19_3 := za BK126.out 3
         have p130 : 0 ≤ (x3_2 : Int) := of_decide_eq_true sqA
         have q130 : x3_2 < (l0_3.length : Int) := of_decide_eq_true sqA
         obtain ⟨ad130, e130, hx130_0⟩ := Kd.qd HR0_3.out x3_2 p130 q130
         cases e130
         replace hx130_0 := (HB.out.cell (World.block_lt_of_cell? w _ hx130_0)).trans hx130_0
         replace p130 := eq_true p130
         replace q130 := eq_true q130
         go_wp2_with (first | (go_at_call 43; (try simp only [zd, zf]); (with_reducible refine (zu.calls (rd l0_3 x3_2) 0 (wrap64 (a0_0 - 1)) true _ A17.out).mono ?_); rintro e w' ⟨rfl, ⟨nd, rfl⟩⟩; (try first | exact ⟨rfl, _, World.drewN_drewN _ _ _⟩ | exact ⟨rfl, _, Eq.trans (World.drewN_drewN _ _ _) (congrArg (World.drewN _) (Nat.add_assoc _ _ _))⟩)))
         repeat (go_quiet (first | (go_at_call 43; (try simp only [zd, zf]); (with_reducible refine (zu.calls (rd l0_3 x3_2) 0 (wrap64 (a0_0 - 1)) true _ A17.out).mono ?_); rintro e w' ⟨rfl, ⟨nd, rfl⟩⟩; (try first | exact ⟨rfl, _, World.drewN_drewN _ _ _⟩ | exact ⟨rfl, _, Eq.trans (World.drewN_drewN _ _ _) (congrArg (World.drewN _) (Nat.add_assoc _ _ _))⟩))); try go_wp2_with (first | (go_at_call 43; (try simp only [zd, zf]); (with_reducible refine (zu.calls (rd l0_3 x3_2) 0 (wrap64 (a0_0 - 1)) true _ A17.out).mono ?_); rintro e w' ⟨rfl, ⟨nd, rfl⟩⟩; (try first | exact ⟨rfl, _, World.drewN_drewN _ _ _⟩ | exact ⟨rfl, _, Eq.trans (World.drewN_drewN _ _ _) (congrArg (World.drewN _) (Nat.add_assoc _ _ _))⟩))))
         go_roundg k2
         case measure => have := HJ1.out; have := HK2.out; omega
         case rel => exact ⟨(wrap64 (x3_2 + 1)), (sqD), H', ⟨by have := HJ1.out; have := HK2.out; omega⟩, ⟨sqK BK126.out⟩, ⟨sqB⟩⟩
        ·replace c18 := Bool.eq_false_iff.mpr c18
         subst c18
         have H1 : (some false) = some r := by rw [if_neg (show ¬ (false = true) by decide)] at H; exact H
         clear H
         have H := H1
         clear H1
         obtain rfl := Option.some.inj H
         have hcz20_0 : wr.cell? ⟨gb126, 0, none⟩ = some (.int .i64 a0_0) := (zb BK126.out 0).trans rfl
         have hcz20_1 : wr.cell? ⟨gb126, 1, none⟩ = some (.int .i64 a0_1) := (zb BK126.out 1).trans rfl
         have hcz20_2 : wr.cell? ⟨gb126, 2, none⟩ = some (.int .i64 a0_2) := (zb BK126.out 2).trans rfl
         have hcz20_3 : wr.cell? ⟨gb126, 3, none⟩ = some (.slice A0_3 l0_3.length c0_3) := (zb BK126.out 3).trans rfl
         have hfz20_0 := za BK126.out 0; have hfz20_1 := za BK126.out 1; have hfz20_2 := za BK126.out 2; have hfz20_3 := za BK126.out 3
         have p130 : 0 ≤ (x3_2 : Int) := of_decide_eq_true sqA
         have q130 : x3_2 < (l0_3.length : Int) := of_decide_eq_true sqA
         obtain ⟨ad130, e130, hx130_0⟩ := Kd.qd HR0_3.out x3_2 p130 q130
         cases e130
         replace hx130_0 := (HB.out.cell (World.block_lt_of_cell? w _ hx130_0)).trans hx130_0
         replace p130 := eq_true p130
         replace q130 := eq_true q130
         go_wp2_with (first | (go_at_call 43; (try simp only [zd, zf]); (with_reducible refine (zu.calls (rd l0_3 x3_2) 0 (wrap64 (a0_0 - 1)) false _ A17.out).mono ?_); rintro e w' ⟨rfl, ⟨nd, rfl⟩⟩; (try first | exact ⟨rfl, _, World.drewN_drewN _ _ _⟩ | exact ⟨rfl, _, Eq.trans (World.drewN_drewN _ _ _) (congrArg (World.drewN _) (Nat.add_assoc _ _ _))⟩)))
         repeat (go_quiet (first | (go_at_call 43; (try simp only [zd, zf]); (with_reducible refine (zu.calls (rd l0_3 x3_2) 0 (wrap64 (a0_0 - 1)) false _ A17.out).mono ?_); rintro e w' ⟨rfl, ⟨nd, rfl⟩⟩; (try first | exact ⟨rfl, _, World.drewN_drewN _ _ _⟩ | exact ⟨rfl, _, Eq.trans (World.drewN_drewN _ _ _) (congrArg (World.drewN _) (Nat.add_assoc _ _ _))⟩))); try go_wp2_with (first | (go_at_call 43; (try simp only [zd, zf]); (with_reducible refine (zu.calls (rd l0_3 x3_2) 0 (wrap64 (a0_0 - 1)) false _ A17.out).mono ?_); rintro e w' ⟨rfl, ⟨nd, rfl⟩⟩; (try first | exact ⟨rfl, _, World.drewN_drewN _ _ _⟩ | exact ⟨rfl, _, Eq.trans (World.drewN_drewN _ _ _) (congrArg (World.drewN _) (Nat.add_assoc _ _ _))⟩))))
         go_ret
         exact ⟨sqE, sqB⟩
       ·rw [if_neg c16] at H
        exact absurd H (by simp)
      ·rw [if_neg c15] at H
       have c15b0 : decide (x3_2 < (l0_3.length : Int)) = false := decide_eq_false c15
       clear c15
       obtain rfl := Option.some.inj H
       have hcz21_0 : wr.cell? ⟨gb126, 0, none⟩ = some (.int .i64 a0_0) := (zb BK126.out 0).trans rfl
       have hcz21_1 : wr.cell? ⟨gb126, 1, none⟩ = some (.int .i64 a0_1) := (zb BK126.out 1).trans rfl
       have hcz21_2 : wr.cell? ⟨gb126, 2, none⟩ = some (.int .i64 a0_2) := (zb BK126.out 2).trans rfl
       have hcz21_3 : wr.cell? ⟨gb126, 3, none⟩ = some (.slice A0_3 l0_3.length c0_3) := (zb BK126.out 3).trans rfl
       have hfz21_0 := za BK126.out 0; have hfz21_1 := za BK126.out 1; have hfz21_2 := za BK126.out 2; have hfz21_3 := za BK126.out 3
       go_wp2
       repeat (go_quiet (fail); try go_wp2)
       go_ret
       exact ⟨sqE, sqB⟩

def qc.f (a0 : Int) : Option (Bool) := if a0 = 2 then (some true) else (if a0 = 3 then (some true) else (if a0 = 5 then (some true) else (some (a0 == 7))))
theorem qc.calls (a0 : Int) (r : Bool) (w : World) (h : qc.f a0 = some r) :
  Calls Try.prog 67 #[.int .i64 a0] w fun e w' => e = .returned (.bool r) ∧ zn w w' := by
 have H : (if a0 = 2 then (some true) else (if a0 = 3 then (some true) else (if a0 = 5 then (some true) else (some (a0 == 7))))) = some r := h
 clear h
 by_cases c2 : a0 = 2
 ·rw [if_pos c2] at H
  have c2b0 : (a0 == 2) = true := beq_iff_eq.mpr c2
  have c2b1 : (a0 != 2) = false := bne_eq_false_iff_eq.mpr c2
  clear c2
  obtain rfl := Option.some.inj H
  go_enter Try.func67, Try.ntmps67
  go_wp2
  go_ret
  exact ⟨sqD, by repeat (first | exact zn.refl _ | apply zn.step)⟩
 ·rw [if_neg c2] at H
  have c2b0 : (a0 == 2) = false := beq_eq_false_iff_ne.mpr c2
  have c2b1 : (a0 != 2) = true := bne_iff_ne.mpr c2
  by_cases c3 : a0 = 3
  ·rw [if_pos c3] at H
   have c3b0 : (a0 == 3) = true := beq_iff_eq.mpr c3
   have c3b1 : (a0 != 3) = false := bne_eq_false_iff_eq.mpr c3
   clear c3
   obtain rfl := Option.some.inj H
   go_enter Try.func67, Try.ntmps67
   go_wp2
   go_ret
   exact ⟨sqD, by repeat (first | exact zn.refl _ | apply zn.step)⟩
  ·rw [if_neg c3] at H
   have c3b0 : (a0 == 3) = false := beq_eq_false_iff_ne.mpr c3
   have c3b1 : (a0 != 3) = true := bne_iff_ne.mpr c3
   by_cases c4 : a0 = 5
   ·rw [if_pos c4] at H
    have c4b0 : (a0 == 5) = true := beq_iff_eq.mpr c4
    have c4b1 : (a0 != 5) = false := bne_eq_false_iff_eq.mpr c4
    clear c4
    obtain rfl := Option.some.inj H
    go_enter Try.func67, Try.ntmps67
    go_wp2
    go_ret
    exact ⟨sqD, by repeat (first | exact zn.refl _ | apply zn.step)⟩
   ·rw [if_neg c4] at H
    have c4b0 : (a0 == 5) = false := beq_eq_false_iff_ne.mpr c4
    have c4b1 : (a0 != 5) = true := bne_iff_ne.mpr c4
    obtain rfl := Option.some.inj H
    go_enter Try.func67, Try.ntmps67
    go_wp2
    go_ret
    exact ⟨sqD, by repeat (first | exact zn.refl _ | apply zn.step)⟩

def zJ.f (a0 : Int) : Option (Bool) := if a0 ≥ 0 then (some (decide (a0 ≤ 8))) else (some false)
theorem zJ.calls (a0 : Int) (r : Bool) (w : World) (h : zJ.f a0 = some r) :
  Calls Try.prog 68 #[.int .i64 a0] w fun e w' => e = .returned (.bool r) ∧ zn w w' := by
 have H : (if a0 ≥ 0 then (some (decide (a0 ≤ 8))) else (some false)) = some r := h
 clear h
 by_cases c2 : a0 ≥ 0
 ·rw [if_pos c2] at H
  have c2b0 : decide (0 ≤ a0) = true := decide_eq_true c2
  clear c2
  obtain rfl := Option.some.inj H
  go_enter Try.func68, Try.ntmps68
  go_wp2
  go_ret
  exact ⟨sqD, by repeat (first | exact zn.refl _ | apply zn.step)⟩
 ·rw [if_neg c2] at H
  have c2b0 : decide (0 ≤ a0) = false := decide_eq_false c2
  clear c2
  obtain rfl := Option.some.inj H
  go_enter Try.func68, Try.ntmps68
  go_wp2
  go_ret
  exact ⟨sqD, by repeat (first | exact zn.refl _ | apply zn.step)⟩

mutual
def zk.j0 : Nat → Bool → Int → Int → Int → List Int → Option (Bool)
 | 0, _, _, _, _, _ => none
 | k + 1, x31, x180000, x180001, x180002, x180003 => if x31 = true then (some false) else (zk.l0 k x180003 (x180003.length : Int) 0 x180000 x180001 x180002 x180003)
def zk.l0 : Nat → List Int → Int → Int → Int → Int → Int → List Int → Option (Bool)
 | 0, _, _, _, _, _, _, _ => none
 | k + 1, x33, x34, x35, x180000, x180001, x180002, x180003 => if x35 < x34 then (if 0 ≤ x35 then (if x35 < (x33.length : Int) then (if (rd x33 x35) < 0 then (some false) else (if (rd x33 x35) ≥ x180000 then (some false) else (zk.l0 k x33 x34 (wrap64 (x35 + 1)) x180000 x180001 x180002 x180003))) else (none)) else (none)) else (some true)
end
def zk.f (k : Nat) (a0_0 : Int) (a0_1 : Int) (a0_2 : Int) (l0_3 : List Int) : Option (Bool) := (qc.f a0_0).bind fun t180 => (if t180 = true then ((zJ.f a0_1).bind fun t181 => (if t181 = true then ((zJ.f a0_2).bind fun t182 => (if t182 = true then (zk.j0 k ((l0_3.length : Int) != (wrap64 (a0_1 * a0_2))) a0_0 a0_1 a0_2 l0_3) else (zk.j0 k true a0_0 a0_1 a0_2 l0_3))) else (zk.j0 k true a0_0 a0_1 a0_2 l0_3))) else (zk.j0 k true a0_0 a0_1 a0_2 l0_3))
theorem zk.calls (k : Nat) (a0_0 : Int) (a0_1 : Int) (a0_2 : Int) (A0_3 : Option Addr) (c0_3 : Nat) (l0_3 : List Int) (r : Bool) (w : World) (hr0_3 : Kd.C (Kd.int .i64) w A0_3 l0_3.length l0_3) (hc0_3 : l0_3.length ≤ c0_3) (h : zk.f k a0_0 a0_1 a0_2 l0_3 = some r) :
  Calls Try.prog 39 #[.agg #[.int .i64 a0_0, .int .i64 a0_1, .int .i64 a0_2, .slice A0_3 l0_3.length c0_3]] w fun e w' => e = .returned (.bool r) ∧ Below w.heap.size w w' := by
 have hu27 := Try.underlying27
 have HR0_3 := Aside0.mk hr0_3
 have HC0_3 := Aside0.mk hc0_3
 clear hr0_3 hc0_3
 have HB := Aside0.mk (Below.refl w.heap.size w)
 have H : ((qc.f a0_0).bind fun t180 => (if t180 = true then ((zJ.f a0_1).bind fun t181 => (if t181 = true then ((zJ.f a0_2).bind fun t182 => (if t182 = true then (zk.j0 k ((l0_3.length : Int) != (wrap64 (a0_1 * a0_2))) a0_0 a0_1 a0_2 l0_3) else (zk.j0 k true a0_0 a0_1 a0_2 l0_3))) else (zk.j0 k true a0_0 a0_1 a0_2 l0_3))) else (zk.j0 k true a0_0 a0_1 a0_2 l0_3))) = some r := h
 clear h
 have HC2 := Aside0.mk H
 clear H
 go_enter Try.func39, Try.ntmps39
 go_upto_region 1 with (first | ((with_reducible refine zx (N := 1) rfl ?_); (try (refine vE (by rfl) ?_; dsimp only)); refine zy ?hg (N := 1) ?hd (cs := #[.int .i64 a0_0, .int .i64 a0_1, .int .i64 a0_2, .slice A0_3 l0_3.length c0_3]) (t := 27) ?hr ?_; (case hd => rfl); (case hg => rfl); (case hr => exact sqG); intro gb179 hg w3 hbox hb; have n0_ := Aside0.mk (zj sqB hb); have n1_ := Aside0.mk (hbox); have n2_ := Aside0.mk ((sqS hg : w.heap.size ≤ gb179)); have n3_ := Aside0.mk ((sqS hg : w.heap.size ≤ gb179)); clear HB; have HB := n0_; have BK179 := n1_; have GW179 := n2_; have GE179 := n3_; clear n0_ n1_ n2_ n3_; clear hb hbox hg))
 (try simp only [Act.put, List.setIfInBounds_toArray, List.set_cons_zero, List.set_cons_succ])
 go_cut [31] (fun v31 wc => ∃ (kq : Nat) (x31_1 : Bool), v31 = .bool x31_1 ∧ Aside0 (zk.j0 kq x31_1 a0_0 a0_1 a0_2 l0_3 = some r) ∧ Aside0 (kq ≤ k) ∧ Aside0 (wc.heap[gb179]? = some (.cells #[.int .i64 a0_0, .int .i64 a0_1, .int .i64 a0_2, (.slice A0_3 l0_3.length c0_3)] 27 (0, 0))) ∧ Aside0 (Below w.heap.size w wc))
 case first =>
  have H := HC2.out
  clear HC2
  replace H := Option.bind_eq_some_iff.mp H
  obtain ⟨t180, A40, H⟩ := H
  replace H : (if t180 = true then ((zJ.f a0_1).bind fun t181 => (if t181 = true then ((zJ.f a0_2).bind fun t182 => (if t182 = true then (zk.j0 k ((l0_3.length : Int) != (wrap64 (a0_1 * a0_2))) a0_0 a0_1 a0_2 l0_3) else (zk.j0 k true a0_0 a0_1 a0_2 l0_3))) else (zk.j0 k true a0_0 a0_1 a0_2 l0_3))) else (zk.j0 k true a0_0 a0_1 a0_2 l0_3)) = some r := H
  have A4 := Aside0.mk A40
  clear A40
  by_cases c5 : t180 = true
  ·subst c5
   have H1 : ((zJ.f a0_1).bind fun t181 => (if t181 = true then ((zJ.f a0_2).bind fun t182 => (if t182 = true then (zk.j0 k ((l0_3.length : Int) != (wrap64 (a0_1 * a0_2))) a0_0 a0_1 a0_2 l0_3) else (zk.j0 k true a0_0 a0_1 a0_2 l0_3))) else (zk.j0 k true a0_0 a0_1 a0_2 l0_3))) = some r := by rw [if_pos rfl] at H; exact H
   clear H
   have H := H1
   clear H1
   replace H := Option.bind_eq_some_iff.mp H
   obtain ⟨t181, A60, H⟩ := H
   replace H : (if t181 = true then ((zJ.f a0_2).bind fun t182 => (if t182 = true then (zk.j0 k ((l0_3.length : Int) != (wrap64 (a0_1 * a0_2))) a0_0 a0_1 a0_2 l0_3) else (zk.j0 k true a0_0 a0_1 a0_2 l0_3))) else (zk.j0 k true a0_0 a0_1 a0_2 l0_3)) = some r := H
   have A6 := Aside0.mk A60
   clear A60
   by_cases c7 : t181 = true
   ·subst c7
    have H1 : ((zJ.f a0_2).bind fun t182 => (if t182 = true then (zk.j0 k ((l0_3.length : Int) != (wrap64 (a0_1 * a0_2))) a0_0 a0_1 a0_2 l0_3) else (zk.j0 k true a0_0 a0_1 a0_2 l0_3))) = some r := by rw [if_pos rfl] at H; exact H
    clear H
    have H := H1
    clear H1
    replace H := Option.bind_eq_some_iff.mp H
    obtain ⟨t182, A80, H⟩ := H
    replace H : (if t182 = true then (zk.j0 k ((l0_3.length : Int) != (wrap64 (a0_1 * a0_2))) a0_0 a0_1 a0_2 l0_3) else (zk.j0 k true a0_0 a0_1 a0_2 l0_3)) = some r := H
    have A8 := Aside0.mk A80
    clear A80
    by_cases c9 : t182 = true
    ·subst c9
     have H1 : (zk.j0 k ((l0_3.length : Int) != (wrap64 (a0_1 * a0_2))) a0_0 a0_1 a0_2 l0_3) = some r := by rw [if_pos rfl] at H; exact H
     clear H
     have H := H1
     clear H1
     have H' := Aside0.mk H
     clear H
     have hcz10_0 : w3.cell? ⟨gb179, 0, none⟩ = some (.int .i64 a0_0) := (zb BK179.out 0).trans rfl
     have hcz10_1 : w3.cell? ⟨gb179, 1, none⟩ = some (.int .i64 a0_1) := (zb BK179.out 1).trans rfl
     have hcz10_2 : w3.cell? ⟨gb179, 2, none⟩ = some (.int .i64 a0_2) := (zb BK179.out 2).trans rfl
     have hcz10_3 : w3.cell? ⟨gb179, 3, none⟩ = some (.slice A0_3 l0_3.length c0_3) := (zb BK179.out 3).trans rfl
     have hfz10_0 := za BK179.out 0; have hfz10_1 := za BK179.out 1; have hfz10_2 := za BK179.out 2; have hfz10_3 := za BK179.out 3
     go_wp2_with (first | ((with_reducible refine zt (f := 67) rfl ?_); refine zN (some 7) rfl rfl Try.func67 (by kernel_rfl) rfl #[.int .i64 a0_0] rfl sqM ?_; (with_reducible refine (qc.calls a0_0 true _ A4.out).mono ?_); rintro e w' ⟨rfl, ⟨nd, rfl⟩⟩; refine ⟨_, rfl, ?_⟩) | (go_at_call 68; (try simp only [zd, zf]); (with_reducible refine (zJ.calls a0_1 true _ A6.out).mono ?_); rintro e w' ⟨rfl, ⟨nd, rfl⟩⟩) | (go_at_call 68; (try simp only [zd, zf]); (with_reducible refine (zJ.calls a0_2 true _ A8.out).mono ?_); rintro e w' ⟨rfl, ⟨nd, rfl⟩⟩))
     go_meet
     case rel => exact ⟨_, (((l0_3.length : Int) != (wrap64 (a0_1 * a0_2)))), (by first | rfl | (simp only [zd, zf]; done) | (simp; done) | (simp [*]; done)), H', ⟨by first | omega | exact Nat.le_refl _⟩, ⟨sqK BK179.out⟩, ⟨sqB⟩⟩
    ·replace c9 := Bool.eq_false_iff.mpr c9
     subst c9
     have H1 : (zk.j0 k true a0_0 a0_1 a0_2 l0_3) = some r := by rw [if_neg (show ¬ (false = true) by decide)] at H; exact H
     clear H
     have H := H1
     clear H1
     have H' := Aside0.mk H
     clear H
     have hcz11_0 : w3.cell? ⟨gb179, 0, none⟩ = some (.int .i64 a0_0) := (zb BK179.out 0).trans rfl
     have hcz11_1 : w3.cell? ⟨gb179, 1, none⟩ = some (.int .i64 a0_1) := (zb BK179.out 1).trans rfl
     have hcz11_2 : w3.cell? ⟨gb179, 2, none⟩ = some (.int .i64 a0_2) := (zb BK179.out 2).trans rfl
     have hcz11_3 : w3.cell? ⟨gb179, 3, none⟩ = some (.slice A0_3 l0_3.length c0_3) := (zb BK179.out 3).trans rfl
     have hfz11_0 := za BK179.out 0; have hfz11_1 := za BK179.out 1; have hfz11_2 := za BK179.out 2; have hfz11_3 := za BK179.out 3
     go_wp2_with (first | ((with_reducible refine zt (f := 67) rfl ?_); refine zN (some 7) rfl rfl Try.func67 (by kernel_rfl) rfl #[.int .i64 a0_0] rfl sqM ?_; (with_reducible refine (qc.calls a0_0 true _ A4.out).mono ?_); rintro e w' ⟨rfl, ⟨nd, rfl⟩⟩; refine ⟨_, rfl, ?_⟩) | (go_at_call 68; (try simp only [zd, zf]); (with_reducible refine (zJ.calls a0_1 true _ A6.out).mono ?_); rintro e w' ⟨rfl, ⟨nd, rfl⟩⟩) | (go_at_call 68; (try simp only [zd, zf]); (with_reducible refine (zJ.calls a0_2 false _ A8.out).mono ?_); rintro e w' ⟨rfl, ⟨nd, rfl⟩⟩))
     go_meet
     case rel => exact ⟨_, (true), (sqD), H', ⟨by first | omega | exact Nat.le_refl _⟩, ⟨sqK BK179.out⟩, ⟨sqB⟩⟩
   ·replace c7 := Bool.eq_false_iff.mpr c7
    subst c7
    have H1 : (zk.j0 k true a0_0 a0_1 a0_2 l0_3) = some r := by rw [if_neg (show ¬ (false = true) by decide)] at H; exact H
    clear H
    have H := H1
    clear H1
    have H' := Aside0.mk H
    clear H
    have hcz12_0 : w3.cell? ⟨gb179, 0, none⟩ = some (.int .i64 a0_0) := (zb BK179.out 0).trans rfl
    have hcz12_1 : w3.cell? ⟨gb179, 1, none⟩ = some (.int .i64 a0_1) := (zb BK179.out 1).trans rfl
    have hcz12_2 : w3.cell? ⟨gb179, 2, none⟩ = some (.int .i64 a0_2) := (zb BK179.out 2).trans rfl
    have hcz12_3 : w3.cell? ⟨gb179, 3, none⟩ = some (.slice A0_3 l0_3.length c0_3) := (zb BK179.out 3).trans rfl
    have hfz12_0 := za BK179.out 0; have hfz12_1 := za BK179.out 1; have hfz12_2 := za BK179.out 2; have hfz12_3 := za BK179.out 3
    go_wp2_with (first | ((with_reducible refine zt (f := 67) rfl ?_); refine zN (some 7) rfl rfl Try.func67 (by kernel_rfl) rfl #[.int .i64 a0_0] rfl sqM ?_; (with_reducible refine (qc.calls a0_0 true _ A4.out).mono ?_); rintro e w' ⟨rfl, ⟨nd, rfl⟩⟩; refine ⟨_, rfl, ?_⟩) | (go_at_call 68; (try simp only [zd, zf]); (with_reducible refine (zJ.calls a0_1 false _ A6.out).mono ?_); rintro e w' ⟨rfl, ⟨nd, rfl⟩⟩))
    go_meet
    case rel => exact ⟨_, (true), (sqD), H', ⟨by first | omega | exact Nat.le_refl _⟩, ⟨sqK BK179.out⟩, ⟨sqB⟩⟩
  ·replace c5 := Bool.eq_false_iff.mpr c5
   subst c5
   have H1 : (zk.j0 k true a0_0 a0_1 a0_2 l0_3) = some r := by rw [if_neg (show ¬ (false = true) by decide)] at H; exact H
   clear H
   have H := H1
   clear H1
   have H' := Aside0.mk H
   clear H
   have hcz13_0 : w3.cell? ⟨gb179, 0, none⟩ = some (.int .i64 a0_0) := (zb BK179.out 0).trans rfl
   have hcz13_1 : w3.cell? ⟨gb179, 1, none⟩ = some (.int .i64 a0_1) := (zb BK179.out 1).trans rfl
   have hcz13_2 : w3.cell? ⟨gb179, 2, none⟩ = some (.int .i64 a0_2) := (zb BK179.out 2).trans rfl
   have hcz13_3 : w3.cell? ⟨gb179, 3, none⟩ = some (.slice A0_3 l0_3.length c0_3) := (zb BK179.out 3).trans rfl
   have hfz13_0 := za BK179.out 0; have hfz13_1 := za BK179.out 1; have hfz13_2 := za BK179.out 2; have hfz13_3 := za BK179.out 3
   go_wp2_with (first | ((with_reducible refine zt (f := 67) rfl ?_); refine zN (some 7) rfl rfl Try.func67 (by kernel_rfl) rfl #[.int .i64 a0_0] rfl sqM ?_; (with_reducible refine (qc.calls a0_0 false _ A4.out).mono ?_); rintro e w' ⟨rfl, ⟨nd, rfl⟩⟩; refine ⟨_, rfl, ?_⟩))
   go_meet
   case rel => exact ⟨_, (true), (sqD), H', ⟨by first | omega | exact Nat.le_refl _⟩, ⟨sqK BK179.out⟩, ⟨sqB⟩⟩
 case rest =>
  clear HC2
  try clear p2
  try clear c3
  try clear c5
  try clear c6
  try clear p6
  try clear c7
  try clear c9
  try clear hcz10_0
  try clear hcz10_1
  try clear hcz10_2
  try clear hcz10_3
  try clear hcz11_0
  try clear hcz11_1
  try clear hcz11_2
  try clear hcz11_3
  try clear hcz12_0
  try clear hcz12_1
  try clear hcz12_2
  try clear hcz12_3
  try clear hcz13_0
  try clear hcz13_1
  try clear hcz13_2
  try clear hcz13_3
  try clear hfz10_0
  try clear hfz10_1
  try clear hfz10_2
  try clear hfz10_3
  try clear hfz11_0
  try clear hfz11_1
  try clear hfz11_2
  try clear hfz11_3
  try clear hfz12_0
  try clear hfz12_1
  try clear hfz12_2
  try clear hfz12_3
  try clear hfz13_0
  try clear hfz13_1
  try clear hfz13_2
  try clear hfz13_3
  obtain ⟨kq, x31_1, rfl, HA, HJ1, BK179, HB⟩ := hcut
  cases kq with
  | zero => exact absurd HA.out (by simp [zk.j0])
  | succ kj1 =>
   have H := HA.out
   clear HA
   simp only [zk.j0] at H
   by_cases c14 : x31_1 = true
   ·subst c14
    have H1 : (some false) = some r := by rw [if_pos rfl] at H; exact H
    clear H
    have H := H1
    clear H1
    obtain rfl := Option.some.inj H
    go_wp2
    go_ret
    exact ⟨sqE, sqB⟩
   ·replace c14 := Bool.eq_false_iff.mpr c14
    subst c14
    have H1 : (zk.l0 kj1 l0_3 (l0_3.length : Int) 0 a0_0 a0_1 a0_2 l0_3) = some r := by rw [if_neg (show ¬ (false = true) by decide)] at H; exact H
    clear H
    have H := H1
    clear H1
    have H' := Aside0.mk H
    clear H
    have hcz15_0 : wc.cell? ⟨gb179, 0, none⟩ = some (.int .i64 a0_0) := (zb BK179.out 0).trans rfl
    have hcz15_1 : wc.cell? ⟨gb179, 1, none⟩ = some (.int .i64 a0_1) := (zb BK179.out 1).trans rfl
    have hcz15_2 : wc.cell? ⟨gb179, 2, none⟩ = some (.int .i64 a0_2) := (zb BK179.out 2).trans rfl
    have hcz15_3 : wc.cell? ⟨gb179, 3, none⟩ = some (.slice A0_3 l0_3.length c0_3) := (zb BK179.out 3).trans rfl
    have hfz15_0 := za BK179.out 0; have hfz15_1 := za BK179.out 1; have hfz15_2 := za BK179.out 2; have hfz15_3 := za BK179.out 3
    go_wp2
    go_loopg [35] kj1 (fun kq v35 w' => ∃ (x35_2 : Int), v35 = .int .i64 x35_2 ∧ Aside0 (zk.l0 kq l0_3 (l0_3.length : Int) x35_2 a0_0 a0_1 a0_2 l0_3 = some r) ∧ Aside0 (kq ≤ kj1) ∧ Aside0 (w'.heap[gb179]? = some (.cells #[.int .i64 a0_0, .int .i64 a0_1, .int .i64 a0_2, (.slice A0_3 l0_3.length c0_3)] 27 (0, 0))) ∧ Aside0 (Below w.heap.size w w'))
    case atStart => exact ⟨(0), (sqD), H', ⟨Nat.le_refl _⟩, ⟨sqK BK179.out⟩, ⟨sqB⟩⟩
    case round =>
     clear H'
     try clear c1
     try clear p2
     try clear c3
     try clear c5
     try clear c6
     try clear p6
     try clear c7
     try clear c9
     try clear c14
     try clear hcz10_0
     try clear hcz10_1
     try clear hcz10_2
     try clear hcz10_3
     try clear hcz11_0
     try clear hcz11_1
     try clear hcz11_2
     try clear hcz11_3
     try clear hcz12_0
     try clear hcz12_1
     try clear hcz12_2
     try clear hcz12_3
     try clear hcz13_0
     try clear hcz13_1
     try clear hcz13_2
     try clear hcz13_3
     try clear hcz15_0
     try clear hcz15_1
     try clear hcz15_2
     try clear hcz15_3
     try clear hfz10_0
     try clear hfz10_1
     try clear hfz10_2
     try clear hfz10_3
     try clear hfz11_0
     try clear hfz11_1
     try clear hfz11_2
     try clear hfz11_3
     try clear hfz12_0
     try clear hfz12_1
     try clear hfz12_2
     try clear hfz12_3
     try clear hfz13_0
     try clear hfz13_1
     try clear hfz13_2
     try clear hfz13_3
     try clear hfz15_0
     try clear hfz15_1
     try clear hfz15_2
     try clear hfz15_3
     try clear p2
     try clear p6
     obtain ⟨x35_2, rfl, HA, HK2, BK179, HB⟩ := hrel
     cases gk with
     | zero => exact absurd HA.out (by simp [zk.l0])
     | succ k2 =>
      have H := HA.out
      clear HA
      simp only [zk.l0] at H
      by_cases c16 : x35_2 < (l0_3.length : Int)
      ·rw [if_pos c16] at H
       have c16b0 : decide (x35_2 < (l0_3.length : Int)) = true := decide_eq_true c16
       clear c16
       by_cases c17 : 0 ≤ x35_2
       ·rw [if_pos c17] at H
        have c17b0 : decide (0 ≤ x35_2) = true := decide_eq_true c17
        clear c17
        by_cases c18 : x35_2 < (l0_3.length : Int)
        ·rw [if_pos c18] at H
         have c18b0 : decide (x35_2 < (l0_3.length : Int)) = true := decide_eq_true c18
         clear c18
         by_cases c19 : (rd l0_3 x35_2) < 0
         ·rw [if_pos c19] at H
          have c19b0 : decide ((rd l0_3 x35_2) < 0) = true := decide_eq_true c19
          clear c19
          obtain rfl := Option.some.inj H
          have p183 : 0 ≤ (x35_2 : Int) := of_decide_eq_true sqA
          have q183 : x35_2 < (l0_3.length : Int) := of_decide_eq_true sqA
          obtain ⟨ad183, e183, hx183_0⟩ := Kd.qd HR0_3.out x35_2 p183 q183
          cases e183
          replace hx183_0 := (HB.out.cell (World.block_lt_of_cell? w _ hx183_0)).trans hx183_0
          replace p183 := eq_true p183
          replace q183 := eq_true q183
          go_wp2
          go_ret
          exact ⟨sqE, sqB⟩
         ·rw [if_neg c19] at H
          have c19b0 : decide ((rd l0_3 x35_2) < 0) = false := decide_eq_false c19
          clear c19
          by_cases c20 : (rd l0_3 x35_2) ≥ a0_0
          ·rw [if_pos c20] at H
           have c20b0 : decide (a0_0 ≤ (rd l0_3 x35_2)) = true := decide_eq_true c20
           clear c20
           obtain rfl := Option.some.inj H
           have p183 : 0 ≤ (x35_2 : Int) := of_decide_eq_true sqA
           have q183 : x35_2 < (l0_3.length : Int) := of_decide_eq_true sqA
           obtain ⟨ad183, e183, hx183_0⟩ := Kd.qd HR0_3.out x35_2 p183 q183
           cases e183
           replace hx183_0 := (HB.out.cell (World.block_lt_of_cell? w _ hx183_0)).trans hx183_0
           replace p183 := eq_true p183
           replace q183 := eq_true q183
           have hcz21_0 : wr.cell? ⟨gb179, 0, none⟩ = some (.int .i64 a0_0) := (zb BK179.out 0).trans rfl
           have hcz21_1 : wr.cell? ⟨gb179, 1, none⟩ = some (.int .i64 a0_1) := (zb BK179.out 1).trans rfl
           have hcz21_2 : wr.cell? ⟨gb179, 2, none⟩ = some (.int .i64 a0_2) := (zb BK179.out 2).trans rfl
           have hcz21_3 : wr.cell? ⟨gb179, 3, none⟩ = some (.slice (some ad183) l0_3.length c0_3) := (zb BK179.out 3).trans rfl
           have hfz21_0 := za BK179.out 0; have hfz21_1 := za BK179.out 1; have hfz21_2 := za BK179.out 2; have hfz21_3 := za BK179.out 3
           go_wp2
           go_ret
           exact ⟨sqE, sqB⟩
          ·rw [if_neg c20] at H
           have c20b0 : decide (a0_0 ≤ (rd l0_3 x35_2)) = false := decide_eq_false c20
           clear c20
           have H' := Aside0.mk H
           clear H
           have p183 : 0 ≤ (x35_2 : Int) := of_decide_eq_true sqA
           have q183 : x35_2 < (l0_3.length : Int) := of_decide_eq_true sqA
           obtain ⟨ad183, e183, hx183_0⟩ := Kd.qd HR0_3.out x35_2 p183 q183
           cases e183
           replace hx183_0 := (HB.out.cell (World.block_lt_of_cell? w _ hx183_0)).trans hx183_0
           replace p183 := eq_true p183
           replace q183 := eq_true q183
           have hcz22_0 : wr.cell? ⟨gb179, 0, none⟩ = some (.int .i64 a0_0) := (zb BK179.out 0).trans rfl
           have hcz22_1 : wr.cell? ⟨gb179, 1, none⟩ = some (.int .i64 a0_1) := (zb BK179.out 1).trans rfl
           have hcz22_2 : wr.cell? ⟨gb179, 2, none⟩ = some (.int .i64 a0_2) := (zb BK179.out 2).trans rfl
           have hcz22_3 : wr.cell? ⟨gb179, 3, none⟩ = some (.slice (some ad183) l0_3.length c0_3) := (zb BK179.out 3).trans rfl
           have hfz22_0 := za BK179.out 0; have hfz22_1 := za BK179.out 1; have hfz22_2 := za BK179.out 2; have hfz22_3 := za BK179.out 3
           go_wp2
           go_roundg k2
           case measure => have := HJ1.out; have := HK2.out; omega
           case rel => exact ⟨(wrap64 (x35_2 + 1)), (sqD), H', ⟨by have := HJ1.out; have := HK2.out; omega⟩, ⟨sqK BK179.out⟩, ⟨sqB⟩⟩
        ·rw [if_neg c18] at H
         exact absurd H (by simp)
       ·rw [if_neg c17] at H
        exact absurd H (by simp)
      ·rw [if_neg c16] at H
       have c16b0 : decide (x35_2 < (l0_3.length : Int)) = false := decide_eq_false c16
       clear c16
       obtain rfl := Option.some.inj H
       go_wp2
       go_ret
       exact ⟨sqE, sqB⟩

mutual
def zm.j0 : Nat → Int → Int → Bool → Option (Int)
 | 0, _, _, _ => none
 | k + 1, x0, x1, x17 => if x17 = true then (some 0) else (zm.l0 k x0 x1 1)
def zm.l0 : Nat → Int → Int → Int → Option (Int)
 | 0, _, _, _ => none
 | k + 1, x0, x1, x5 => if x0 = 0 then (none) else (if (Int.tmod (wrap64 (x1 * x5)) x0) = 1 then (some x5) else (zm.l0 k x0 x1 (wrap64 (x5 + 1))))
end
def zm.f (k : Nat) (a0 : Int) (a1 : Int) : Option (Int) := (qc.f a0).bind fun t184 => (if t184 = true then (if a1 < 1 then (zm.j0 k a0 a1 true) else (zm.j0 k a0 a1 (decide (a1 ≥ a0)))) else (zm.j0 k a0 a1 true))
theorem zm.calls (k : Nat) (a0 : Int) (a1 : Int) (r : Int) (w : World) (h : zm.f k a0 a1 = some r) :
  Calls Try.prog 72 #[.int .i64 a0, .int .i64 a1] w fun e w' => e = .returned (.int .i64 r) ∧ zn w w' := by
 have H : ((qc.f a0).bind fun t184 => (if t184 = true then (if a1 < 1 then (zm.j0 k a0 a1 true) else (zm.j0 k a0 a1 (decide (a1 ≥ a0)))) else (zm.j0 k a0 a1 true))) = some r := h
 clear h
 have HC3 := Aside0.mk H
 clear H
 go_enter Try.func72, Try.ntmps72
 go_upto_region 1 with (fail)
 go_cut [17] (fun v17 wc => ∃ (kq : Nat) (x17_2 : Bool), v17 = .bool x17_2 ∧ Aside0 (zm.j0 kq a0 a1 x17_2 = some r) ∧ Aside0 (kq ≤ k) ∧ zn w wc)
 case first =>
  have H := HC3.out
  clear HC3
  replace H := Option.bind_eq_some_iff.mp H
  obtain ⟨t184, A40, H⟩ := H
  replace H : (if t184 = true then (if a1 < 1 then (zm.j0 k a0 a1 true) else (zm.j0 k a0 a1 (decide (a1 ≥ a0)))) else (zm.j0 k a0 a1 true)) = some r := H
  have A4 := Aside0.mk A40
  clear A40
  by_cases c5 : t184 = true
  ·subst c5
   have H1 : (if a1 < 1 then (zm.j0 k a0 a1 true) else (zm.j0 k a0 a1 (decide (a1 ≥ a0)))) = some r := by rw [if_pos rfl] at H; exact H
   clear H
   have H := H1
   clear H1
   by_cases c6 : a1 < 1
   ·rw [if_pos c6] at H
    have c6b0 : decide (a1 < 1) = true := decide_eq_true c6
    clear c6
    (first | rw [c6b0] | (simp only [zd, zf]; rw [c6b0]) | skip)
    have H' := Aside0.mk H
    clear H
    go_wp2_with (first | ((with_reducible refine zt (f := 67) rfl ?_); refine zN (some 7) rfl rfl Try.func67 (by kernel_rfl) rfl #[.int .i64 a0] rfl sqM ?_; (with_reducible refine (qc.calls a0 true _ A4.out).mono ?_); rintro e w' ⟨rfl, ⟨nd, rfl⟩⟩; refine ⟨_, rfl, ?_⟩))
    go_meet
    case rel => exact ⟨_, (true), (sqD), H', ⟨by first | omega | exact Nat.le_refl _⟩, by repeat (first | exact zn.refl _ | apply zn.step)⟩
   ·rw [if_neg c6] at H
    have c6b0 : decide (a1 < 1) = false := decide_eq_false c6
    clear c6
    (first | rw [c6b0] | (simp only [zd, zf]; rw [c6b0]) | skip)
    have H' := Aside0.mk H
    clear H
    go_wp2_with (first | ((with_reducible refine zt (f := 67) rfl ?_); refine zN (some 7) rfl rfl Try.func67 (by kernel_rfl) rfl #[.int .i64 a0] rfl sqM ?_; (with_reducible refine (qc.calls a0 true _ A4.out).mono ?_); rintro e w' ⟨rfl, ⟨nd, rfl⟩⟩; refine ⟨_, rfl, ?_⟩))
    go_meet
    case rel => exact ⟨_, (decide (a1 ≥ a0)), (sqD), H', ⟨by first | omega | exact Nat.le_refl _⟩, by repeat (first | exact zn.refl _ | apply zn.step)⟩
  ·replace c5 := Bool.eq_false_iff.mpr c5
   subst c5
   have H1 : (zm.j0 k a0 a1 true) = some r := by rw [if_neg (show ¬ (false = true) by decide)] at H; exact H
   clear H
   have H := H1
   clear H1
   have H' := Aside0.mk H
   clear H
   go_wp2_with (first | ((with_reducible refine zt (f := 67) rfl ?_); refine zN (some 7) rfl rfl Try.func67 (by kernel_rfl) rfl #[.int .i64 a0] rfl sqM ?_; (with_reducible refine (qc.calls a0 false _ A4.out).mono ?_); rintro e w' ⟨rfl, ⟨nd, rfl⟩⟩; refine ⟨_, rfl, ?_⟩))
   go_meet
   case rel => exact ⟨_, (true), (sqD), H', ⟨by first | omega | exact Nat.le_refl _⟩, by repeat (first | exact zn.refl _ | apply zn.step)⟩
 case rest =>
  clear HC3
  try clear p2
  try clear c5
  try clear c6
  try clear c6b0
  obtain ⟨kq, x17_2, rfl, HA, HJ2, ⟨mc2, rfl⟩⟩ := hcut
  cases kq with
  | zero => exact absurd HA.out (by simp [zm.j0])
  | succ kj2 =>
   have H := HA.out
   clear HA
   simp only [zm.j0] at H
   by_cases c7 : x17_2 = true
   ·subst c7
    have H1 : (some 0) = some r := by rw [if_pos rfl] at H; exact H
    clear H
    have H := H1
    clear H1
    obtain rfl := Option.some.inj H
    go_wp2
    go_ret
    exact ⟨sqD, by repeat (first | exact zn.refl _ | apply zn.step)⟩
   ·replace c7 := Bool.eq_false_iff.mpr c7
    subst c7
    have H1 : (zm.l0 kj2 a0 a1 1) = some r := by rw [if_neg (show ¬ (false = true) by decide)] at H; exact H
    clear H
    have H := H1
    clear H1
    have H' := Aside0.mk H
    clear H
    go_wp2
    go_loopg [5] kj2 (fun kq v5 w' => ∃ (x5_2 : Int), v5 = .int .i64 x5_2 ∧ Aside0 (zm.l0 kq a0 a1 x5_2 = some r) ∧ Aside0 (kq ≤ kj2) ∧ zn w w')
    case atStart => exact ⟨(1), (sqD), H', ⟨Nat.le_refl _⟩, by repeat (first | exact zn.refl _ | apply zn.step)⟩
    case round =>
     clear H'
     try clear c2
     try clear p2
     try clear c5
     try clear c6
     try clear c6b0
     try clear c7
     try clear p2
     obtain ⟨x5_2, rfl, HA, HK2, ⟨m2, rfl⟩⟩ := hrel
     cases gk with
     | zero => exact absurd HA.out (by simp [zm.l0])
     | succ k2 =>
      have H := HA.out
      clear HA
      simp only [zm.l0] at H
      by_cases c8 : a0 = 0
      ·rw [if_pos c8] at H
       exact absurd H (by simp)
      ·rw [if_neg c8] at H
       have c8b0 : (a0 == 0) = false := beq_eq_false_iff_ne.mpr c8
       have c8b1 : (a0 != 0) = true := bne_iff_ne.mpr c8
       by_cases c9 : (Int.tmod (wrap64 (a1 * x5_2)) a0) = 1
       ·rw [if_pos c9] at H
        have c9b0 : ((Int.tmod (wrap64 (a1 * x5_2)) a0) == 1) = true := beq_iff_eq.mpr c9
        have c9b1 : ((Int.tmod (wrap64 (a1 * x5_2)) a0) != 1) = false := bne_eq_false_iff_eq.mpr c9
        clear c9
        obtain rfl := Option.some.inj H
        go_wp2
        go_ret
        exact ⟨sqD, by repeat (first | exact zn.refl _ | apply zn.step)⟩
       ·rw [if_neg c9] at H
        have c9b0 : ((Int.tmod (wrap64 (a1 * x5_2)) a0) == 1) = false := beq_eq_false_iff_ne.mpr c9
        have c9b1 : ((Int.tmod (wrap64 (a1 * x5_2)) a0) != 1) = true := bne_iff_ne.mpr c9
        have H' := Aside0.mk H
        clear H
        go_wp2
        go_roundg k2
        case measure => have := HJ2.out; have := HK2.out; omega
        case rel => exact ⟨(wrap64 (x5_2 + 1)), (sqD), H', ⟨by have := HJ2.out; have := HK2.out; omega⟩, by repeat (first | exact zn.refl _ | apply zn.step)⟩

end Go.Proofs.Ytopkfhnnapncgaa.F
end
section
namespace Go.Proofs.Ytopkfhnnapncgaa.F
open Go.RowKit Go.Proofs.YtopkfhnnapncgaaW.PrintWords Go.Proofs.YtopkfhnnapncgaaW.PrintLast Go.Proofs.YtopkfhnnapncgaaW.PrintMore
attribute [local go_sem] jP jR vl vm ju jv jO jN   -- for this text's walks alone
set_option linter.unusedVariables false
set_option linter.unusedSimpArgs false

def jd.f (a0_0 : Int) (a0_1 : Int) (a0_2 : Int) (l0_3 : List Int) (a1 : Int) (a2 : Int) : Option (Int) := if 0 ≤ (wrap64 ((wrap64 (a1 * a0_2)) + a2)) then (if (wrap64 ((wrap64 (a1 * a0_2)) + a2)) < (l0_3.length : Int) then (some (rd l0_3 (wrap64 ((wrap64 (a1 * a0_2)) + a2)))) else (none)) else (none)
theorem jd.calls (a0_0 : Int) (a0_1 : Int) (a0_2 : Int) (A0_3 : Option Addr) (c0_3 : Nat) (l0_3 : List Int) (a1 : Int) (a2 : Int) (r : Int) (w : World) (hr0_3 : Kd.C (Kd.int .i64) w A0_3 l0_3.length l0_3) (hc0_3 : l0_3.length ≤ c0_3) (h : jd.f a0_0 a0_1 a0_2 l0_3 a1 a2 = some r) :
  Calls Try.prog 40 #[.agg #[.int .i64 a0_0, .int .i64 a0_1, .int .i64 a0_2, .slice A0_3 l0_3.length c0_3], .int .i64 a1, .int .i64 a2] w fun e w' => e = .returned (.int .i64 r) ∧ Below w.heap.size w w' := by
 have hu27 := Try.underlying27
 have HR0_3 := Aside0.mk hr0_3
 have HC0_3 := Aside0.mk hc0_3
 clear hr0_3 hc0_3
 have HB := Aside0.mk (Below.refl w.heap.size w)
 have H : (if 0 ≤ (wrap64 ((wrap64 (a1 * a0_2)) + a2)) then (if (wrap64 ((wrap64 (a1 * a0_2)) + a2)) < (l0_3.length : Int) then (some (rd l0_3 (wrap64 ((wrap64 (a1 * a0_2)) + a2)))) else (none)) else (none)) = some r := h
 clear h
 obtain ⟨ji4, hji4⟩ : ∃ j_ : Int, (wrap64 ((wrap64 (a1 * a0_2)) + a2)) = j_ := ⟨_, rfl⟩
 replace H : (if 0 ≤ (ji4) then (if (ji4) < (l0_3.length : Int) then (some (rd l0_3 (ji4))) else (none)) else (none)) = some r := by first | (rw [hji4] at H; exact H) | (simp only [hji4] at H ⊢; exact H)
 have hji4w : (IntKind.i64.wrap ((wrap64 (a1 * a0_2)) + a2)) = ji4 := (zd _).trans hji4
 by_cases c5 : 0 ≤ (ji4)
 ·rw [if_pos c5] at H
  have c5b0 : decide (0 ≤ (ji4)) = true := decide_eq_true c5
  clear c5
  by_cases c6 : (ji4) < (l0_3.length : Int)
  ·rw [if_pos c6] at H
   have c6b0 : decide ((ji4) < (l0_3.length : Int)) = true := decide_eq_true c6
   clear c6
   obtain rfl := Option.some.inj H
   go_enter Try.func40, Try.ntmps40
   go_wp2_with (first | ((with_reducible refine zx (N := 3) rfl ?_); refine zy ?hg (N := 3) ?hd (cs := #[.int .i64 a0_0, .int .i64 a0_1, .int .i64 a0_2, .slice A0_3 l0_3.length c0_3]) (t := 27) ?hr ?_; (case hd => rfl); (case hg => rfl); (case hr => exact sqG); intro gb280 hg w7 hbox hb; have n0_ := Aside0.mk (zj sqB hb); have n1_ := Aside0.mk (hbox); have n2_ := Aside0.mk ((sqS hg : w.heap.size ≤ gb280)); have n3_ := Aside0.mk ((sqS hg : w.heap.size ≤ gb280)); clear HB; have HB := n0_; have BK280 := n1_; have GW280 := n2_; have GE280 := n3_; clear n0_ n1_ n2_ n3_; clear hb hbox hg; have hcz8_0 : w7.cell? ⟨gb280, 0, none⟩ = some (.int .i64 a0_0) := (zb BK280.out 0).trans rfl; have hcz8_1 : w7.cell? ⟨gb280, 1, none⟩ = some (.int .i64 a0_1) := (zb BK280.out 1).trans rfl; have hcz8_2 : w7.cell? ⟨gb280, 2, none⟩ = some (.int .i64 a0_2) := (zb BK280.out 2).trans rfl; have hcz8_3 : w7.cell? ⟨gb280, 3, none⟩ = some (.slice A0_3 l0_3.length c0_3) := (zb BK280.out 3).trans rfl; have hfz8_0 := za BK280.out 0; have hfz8_1 := za BK280.out 1; have hfz8_2 := za BK280.out 2; have hfz8_3 := za BK280.out 3; have p281 : 0 ≤ ((ji4) : Int) := of_decide_eq_true sqA; have q281 : (ji4) < (l0_3.length : Int) := of_decide_eq_true sqA; obtain ⟨ad281, e281, hx281_0⟩ := Kd.qd HR0_3.out (ji4) p281 q281; cases e281; replace hx281_0 := (HB.out.cell (World.block_lt_of_cell? w _ hx281_0)).trans hx281_0; replace p281 := eq_true p281; replace q281 := eq_true q281))
   go_ret
   exact ⟨by first | rfl | (simp [qR, qO] <;> rfl) | (simp only [← hji4]; first | rfl | (simp [qR, qO] <;> rfl)) | (simp [*, qR, qO] <;> rfl), sqB⟩
  ·rw [if_neg c6] at H
   exact absurd H (by simp)
 ·rw [if_neg c5] at H
  exact absurd H (by simp)

end Go.Proofs.Ytopkfhnnapncgaa.F
end
section
namespace Go.Proofs.Ytopkfhnnapncgaa.F
open Go.RowKit Go.Proofs.YtopkfhnnapncgaaW.PrintWords Go.Proofs.YtopkfhnnapncgaaW.PrintLast Go.Proofs.YtopkfhnnapncgaaW.PrintMore
attribute [local go_sem] jP jR vl vm ju jv jO jN   -- for this text's walks alone
set_option linter.unusedVariables false
set_option linter.unusedSimpArgs false

def qM.f (a0 : Int) (a1 : Int) : Option (Bool) := (zu.f a0 0 8).bind fun t256 => (if t256 = true then (if 0 ≤ (IntKind.u64.wrap (a0)) then ((zu.f a1 0 (wrap64 ((shl .i64 1 (IntKind.u64.wrap (a0))) - 1))).bind fun t257 => (some t257)) else (none)) else (some false))
theorem qM.calls (a0 : Int) (a1 : Int) (r : Bool) (w : World) (h : qM.f a0 a1 = some r) :
  Calls Try.prog 49 #[.int .i64 a0, .int .i64 a1] w fun e w' => e = .returned (.bool r) ∧ zn w w' := by
 have H : ((zu.f a0 0 8).bind fun t256 => (if t256 = true then (if 0 ≤ (IntKind.u64.wrap (a0)) then ((zu.f a1 0 (wrap64 ((shl .i64 1 (IntKind.u64.wrap (a0))) - 1))).bind fun t257 => (some t257)) else (none)) else (some false))) = some r := h
 clear h
 replace H := Option.bind_eq_some_iff.mp H
 obtain ⟨t256, A30, H⟩ := H
 replace H : (if t256 = true then (if 0 ≤ (IntKind.u64.wrap (a0)) then ((zu.f a1 0 (wrap64 ((shl .i64 1 (IntKind.u64.wrap (a0))) - 1))).bind fun t257 => (some t257)) else (none)) else (some false)) = some r := H
 have A3 := Aside0.mk A30
 clear A30
 by_cases c4 : t256 = true
 ·subst c4
  have H1 : (if 0 ≤ (IntKind.u64.wrap (a0)) then ((zu.f a1 0 (wrap64 ((shl .i64 1 (IntKind.u64.wrap (a0))) - 1))).bind fun t257 => (some t257)) else (none)) = some r := by rw [if_pos rfl] at H; exact H
  clear H
  have H := H1
  clear H1
  obtain ⟨ji5, hji5⟩ : ∃ j_ : Int, (IntKind.u64.wrap (a0)) = j_ := ⟨_, rfl⟩
  replace H : (if 0 ≤ (ji5) then ((zu.f a1 0 (wrap64 ((shl .i64 1 (ji5)) - 1))).bind fun t257 => (some t257)) else (none)) = some r := by first | (rw [hji5] at H; exact H) | (simp only [hji5] at H ⊢; exact H)
  (try rw [hji5] at A3)
  by_cases c6 : 0 ≤ (ji5)
  ·rw [if_pos c6] at H
   have c6b0 := eq_true c6
   have c6b1 : decide (0 ≤ (ji5)) = true := decide_eq_true c6
   clear c6
   obtain ⟨ji7, hji7⟩ : ∃ j_ : Int, (shl .i64 1 (ji5)) = j_ := ⟨_, rfl⟩
   replace H : ((zu.f a1 0 (wrap64 ((ji7) - 1))).bind fun t257 => (some t257)) = some r := by first | (rw [hji7] at H; exact H) | (simp only [hji7] at H ⊢; exact H)
   (try rw [hji7] at A3)
   have hji7_ : (IntKind.i64.wrap (1 * 2 ^ min (ji5).toNat 64)) = ji7 := hji7
   have hji7z : (ji5) ≤ 64 → (IntKind.i64.wrap (1 * 2 ^ (ji5).toNat)) = ji7 := Z1 hji7
   have hji7u : (IntKind.i64.wrap (2 ^ min (ji5).toNat 64)) = ji7 := by have h_ := hji7_; rw [Int.one_mul] at h_; exact h_
   have hji7v : (ji5) ≤ 64 → (IntKind.i64.wrap (2 ^ (ji5).toNat)) = ji7 := fun hle_ => by have h_ := hji7z hle_; rw [Int.one_mul] at h_; exact h_
   have hji7y : (wrap64 (1 * 2 ^ min (ji5).toNat 64)) = ji7 := (zd _).symm.trans hji7_
   have hji7x : (ji5) ≤ 64 → (wrap64 (1 * 2 ^ (ji5).toNat)) = ji7 := fun h_ => (zd _).symm.trans (hji7z h_)
   replace H := Option.bind_eq_some_iff.mp H
   obtain ⟨t257, A80, H⟩ := H
   replace H : (some t257) = some r := H
   have A8 := Aside0.mk A80
   clear A80
   obtain rfl := Option.some.inj H
   go_enter Try.func49, Try.ntmps49
   go_wp2_with (first | ((with_reducible refine zt (f := 43) rfl ?_); refine zN (some 6) rfl rfl Try.func43 (by kernel_rfl) rfl #[.int .i64 a0, .int .i64 0, .int .i64 8] rfl sqM ?_; (with_reducible refine (zu.calls a0 0 8 true _ A3.out).mono ?_); rintro e w' ⟨rfl, ⟨nd, rfl⟩⟩; refine ⟨_, rfl, ?_⟩) | (go_at_call 43; (try simp only [zd, zf]); (with_reducible refine (zu.calls a1 0 (wrap64 ((ji7) - 1)) t257 _ A8.out).mono ?_); rintro e w' ⟨rfl, ⟨nd, rfl⟩⟩))
   go_ret
   exact ⟨by first | rfl | (simp; done) | (simp only [← hji5, ← hji7] <;> (first | rfl | simp)) | (simp [*]; done), by repeat (first | exact zn.refl _ | apply zn.step)⟩
  ·rw [if_neg c6] at H
   exact absurd H (by simp)
 ·replace c4 := Bool.eq_false_iff.mpr c4
  subst c4
  have H1 : (some false) = some r := by rw [if_neg (show ¬ (false = true) by decide)] at H; exact H
  clear H
  have H := H1
  clear H1
  obtain rfl := Option.some.inj H
  go_enter Try.func49, Try.ntmps49
  go_wp2_with (first | ((with_reducible refine zt (f := 43) rfl ?_); refine zN (some 6) rfl rfl Try.func43 (by kernel_rfl) rfl #[.int .i64 a0, .int .i64 0, .int .i64 8] rfl sqM ?_; (with_reducible refine (zu.calls a0 0 8 false _ A3.out).mono ?_); rintro e w' ⟨rfl, ⟨nd, rfl⟩⟩; refine ⟨_, rfl, ?_⟩))
  go_ret
  exact ⟨sqD, by repeat (first | exact zn.refl _ | apply zn.step)⟩

def jn.f (a0 : Int) (a1 : Int) : Option (Bool) := if 0 ≤ (IntKind.u64.wrap (a1)) then (some ((Go.bits .and .i64 (shr .i64 a0 (IntKind.u64.wrap (a1))) 1) == 1)) else (none)
theorem jn.calls (a0 : Int) (a1 : Int) (r : Bool) (w : World) (h : jn.f a0 a1 = some r) :
  Calls Try.prog 70 #[.int .i64 a0, .int .i64 a1] w fun e w' => e = .returned (.bool r) ∧ zn w w' := by
 have H : (if 0 ≤ (IntKind.u64.wrap (a1)) then (some ((Go.bits .and .i64 (shr .i64 a0 (IntKind.u64.wrap (a1))) 1) == 1)) else (none)) = some r := h
 clear h
 obtain ⟨ji3, hji3⟩ : ∃ j_ : Int, (IntKind.u64.wrap (a1)) = j_ := ⟨_, rfl⟩
 replace H : (if 0 ≤ (ji3) then (some ((Go.bits .and .i64 (shr .i64 a0 (ji3)) 1) == 1)) else (none)) = some r := by first | (rw [hji3] at H; exact H) | (simp only [hji3] at H ⊢; exact H)
 by_cases c4 : 0 ≤ (ji3)
 ·rw [if_pos c4] at H
  have c4b0 := eq_true c4
  have c4b1 : decide (0 ≤ (ji3)) = true := decide_eq_true c4
  clear c4
  obtain ⟨ji5, hji5⟩ : ∃ j_ : Int, (shr .i64 a0 (ji3)) = j_ := ⟨_, rfl⟩
  replace H : (some ((Go.bits .and .i64 (ji5) 1) == 1)) = some r := by first | (rw [hji5] at H; exact H) | (simp only [hji5] at H ⊢; exact H)
  have hji5_ : (a0 / 2 ^ min (ji3).toNat 64) = ji5 := hji5
  have hji5z : (ji3) ≤ 64 → (a0 / 2 ^ (ji3).toNat) = ji5 := Z4 hji5
  obtain rfl := Option.some.inj H
  go_enter Try.func70, Try.ntmps70
  go_wp2
  go_ret
  exact ⟨by first | rfl | (simp; done) | (simp only [← hji3, ← hji5] <;> (first | rfl | simp)) | (simp [*]; done), by repeat (first | exact zn.refl _ | apply zn.step)⟩
 ·rw [if_neg c4] at H
  exact absurd H (by simp)

mutual
def ze.l0 : Nat → Int → Int → Int → Int → List Int → Int → Int → Option (Int)
 | 0, _, _, _, _, _, _, _ => none
 | k + 1, x0, x1, x2, x4, x11, x12, x13 => if x13 < x2 then ((jn.f x4 x13).bind fun t264 => (if t264 = true then (ze.l1 k x0 x1 x2 x4 x11 x12 x13 x12) else (ze.l0 k x0 x1 x2 x4 x11 x12 (wrap64 (x13 + 1))))) else (some x12)
def ze.j2 : Nat → Int → Int → Int → Int → List Int → Int → Int → Int → Option (Int)
 | 0, _, _, _, _, _, _, _, _ => none
 | k + 1, x0, x1, x2, x4, x11, x12, x13, x14 => if x14 ≥ x1 then (ze.l0 k x0 x1 x2 x4 x11 x12 (wrap64 (x13 + 1))) else (ze.l2 k x0 x1 x2 x4 x11 x12 x13 x14 0)
def ze.l2 : Nat → Int → Int → Int → Int → List Int → Int → Int → Int → Int → Option (Int)
 | 0, _, _, _, _, _, _, _, _, _ => none
 | k + 1, x0, x1, x2, x4, x11, x12, x13, x14, x15 => if x15 < x2 then (if 0 ≤ (wrap64 ((wrap64 (x14 * x2)) + x15)) then (if (wrap64 ((wrap64 (x14 * x2)) + x15)) < (x11.length : Int) then (if 0 ≤ (wrap64 ((wrap64 (x12 * x2)) + x15)) then (if (wrap64 ((wrap64 (x12 * x2)) + x15)) < (x11.length : Int) then (ze.l2 k x0 x1 x2 x4 ((x11.set ((wrap64 ((wrap64 (x14 * x2)) + x15)) : Int).toNat (rd x11 (wrap64 ((wrap64 (x12 * x2)) + x15)))).set ((wrap64 ((wrap64 (x12 * x2)) + x15)) : Int).toNat (rd x11 (wrap64 ((wrap64 (x14 * x2)) + x15)))) x12 x13 x14 (wrap64 (x15 + 1))) else (none)) else (none)) else (none)) else (none)) else (ze.l3 k x0 x1 x2 x4 x11 x12 x13 (wrap64 (x12 + 1)))
def ze.l3 : Nat → Int → Int → Int → Int → List Int → Int → Int → Int → Option (Int)
 | 0, _, _, _, _, _, _, _, _ => none
 | k + 1, x0, x1, x2, x4, x11, x12, x13, x17 => if x17 < x1 then (if 0 ≤ (wrap64 ((wrap64 (x17 * x2)) + x13)) then (if (wrap64 ((wrap64 (x17 * x2)) + x13)) < (x11.length : Int) then (if 0 ≤ (wrap64 ((wrap64 (x12 * x2)) + x13)) then (if (wrap64 ((wrap64 (x12 * x2)) + x13)) < (x11.length : Int) then (ze.l4 k x0 x1 x2 x4 x11 x12 x13 x17 (rd x11 (wrap64 ((wrap64 (x17 * x2)) + x13))) (rd x11 (wrap64 ((wrap64 (x12 * x2)) + x13))) 0) else (none)) else (none)) else (none)) else (none)) else (ze.l0 k x0 x1 x2 x4 x11 (wrap64 (x12 + 1)) (wrap64 (x13 + 1)))
def ze.l4 : Nat → Int → Int → Int → Int → List Int → Int → Int → Int → Int → Int → Int → Option (Int)
 | 0, _, _, _, _, _, _, _, _, _, _, _ => none
 | k + 1, x0, x1, x2, x4, x11, x12, x13, x17, x18, x19, x20 => if x20 < x2 then (if 0 ≤ (wrap64 ((wrap64 (x17 * x2)) + x20)) then (if (wrap64 ((wrap64 (x17 * x2)) + x20)) < (x11.length : Int) then (if 0 ≤ (wrap64 ((wrap64 (x12 * x2)) + x20)) then (if (wrap64 ((wrap64 (x12 * x2)) + x20)) < (x11.length : Int) then (if x0 = 0 then (none) else (ze.l4 k x0 x1 x2 x4 (x11.set ((wrap64 ((wrap64 (x17 * x2)) + x20)) : Int).toNat (Int.tmod (wrap64 ((Int.tmod (wrap64 ((wrap64 ((rd x11 (wrap64 ((wrap64 (x17 * x2)) + x20))) * x19)) - (wrap64 ((rd x11 (wrap64 ((wrap64 (x12 * x2)) + x20))) * x18)))) x0) + x0)) x0)) x12 x13 x17 x18 x19 (wrap64 (x20 + 1)))) else (none)) else (none)) else (none)) else (none)) else (ze.l3 k x0 x1 x2 x4 x11 x12 x13 (wrap64 (x17 + 1)))
def ze.l1 : Nat → Int → Int → Int → Int → List Int → Int → Int → Int → Option (Int)
 | 0, _, _, _, _, _, _, _, _ => none
 | k + 1, x0, x1, x2, x4, x11, x12, x13, x14 => if x14 < x1 then (if 0 ≤ (wrap64 ((wrap64 (x14 * x2)) + x13)) then (if (wrap64 ((wrap64 (x14 * x2)) + x13)) < (x11.length : Int) then (if (rd x11 (wrap64 ((wrap64 (x14 * x2)) + x13))) = 0 then (ze.l1 k x0 x1 x2 x4 x11 x12 x13 (wrap64 (x14 + 1))) else (ze.j2 k x0 x1 x2 x4 x11 x12 x13 x14)) else (none)) else (none)) else (ze.j2 k x0 x1 x2 x4 x11 x12 x13 x14)
end
def ze.f (k : Nat) (a0 : Int) (a1 : Int) (a2 : Int) (l3 : List Int) (a4 : Int) : Option (Int) := (some (([] : List Int) : List Int)).bind fun y258 => (if y258.length + l3.length < 17592186044416 then (ze.l0 k a0 a1 a2 a4 (y258 ++ l3) 0 0) else (none))
def ze.T25 : Bool × List (List Nat × List Nat) := (true, [([], []), ([], []), ([], []), ([1, 2], [1, 2]), ([], []), ([3, 4], [3, 4]), ([], []), ([], []), ([], []), ([7, 8], [7, 8]), ([], []), ([9, 10], [9, 10]), ([6, 11], [6, 11]), ([12], [12]), ([], []), ([13, 14], [13, 14]), ([], []), ([], []), ([], []), ([17, 18], [17, 18]), ([], []), ([19, 20], [19, 20]), ([16, 21], [16, 21]), ([22], [22]), ([], []), ([23, 24], [23, 24]), ([15, 25], [15, 25]), ([], []), ([26, 27], [26, 27]), ([], []), ([28, 29], [28, 29]), ([], []), ([30, 31], [30, 31]), ([0, 5, 0, 1, 2, 3, 4, 5, 6, 7, 8, 9, 10, 11, 12, 13, 14, 15, 16, 17, 18, 19, 20, 21, 22, 23, 24, 25, 26, 27, 28, 29, 30, 31, 32], [0, 5]), ([33, 32, 0, 1, 2, 3, 4, 5, 6, 7, 8, 9, 10, 11, 12, 13, 14, 15, 16, 17, 18, 19, 20, 21, 22, 23, 24, 25, 26, 27, 28, 29, 30, 31, 32], [32, 33])])
def ze.B25 : List Nat := [0, 0, 0, 6, 0, 30, 0, 0, 0, 384, 0, 1920, 4032, 8128, 0, 32704, 0, 0, 0, 393216, 0, 1966080, 4128768, 8323072, 0, 33488896, 67108800, 0, 268435392, 0, 1073741760, 0, 4294967232, 8589934591, 17179869183]
theorem ze.Y8 : jo .any (opsOf Try.f57 25) = ze.T25 := by kernel_rfl
theorem ze.YG : q8 ze.T25.2 ze.B25 = true := by kernel_rfl
theorem ze.calls (k : Nat) (a0 : Int) (a1 : Int) (a2 : Int) (A3 : Option Addr) (c3 : Nat) (l3 : List Int) (a4 : Int) (r : Int) (w : World) (hr3 : Kd.C (Kd.int .i64) w A3 l3.length l3) (hc3 : l3.length ≤ c3) (h : ze.f k a0 a1 a2 l3 a4 = some r) :
  Calls Try.prog 57 #[.int .i64 a0, .int .i64 a1, .int .i64 a2, .slice A3 l3.length c3, .int .i64 a4] w fun e w' => e = .returned (.int .i64 r) ∧ Below w.heap.size w w' := by
 have HR3 := Aside0.mk hr3
 have HC3 := Aside0.mk hc3
 clear hr3 hc3
 have HB := Aside0.mk (Below.refl w.heap.size w)
 have H : ((some (([] : List Int) : List Int)).bind fun y258 => (if y258.length + l3.length < 17592186044416 then (ze.l0 k a0 a1 a2 a4 (y258 ++ l3) 0 0) else (none))) = some r := h
 clear h
 obtain ⟨y258, hy258⟩ : ∃ y_ : List Int, y_ = (([] : List Int)) := ⟨_, rfl⟩
 replace H : (if y258.length + l3.length < 17592186044416 then (ze.l0 k a0 a1 a2 a4 (y258 ++ l3) 0 0) else (none)) = some r := by first | (rw [hy258]; with_reducible exact H) | (have H2_ := (Option.bind_some _ _).symm.trans H; rw [hy258]; with_reducible exact H2_) | (have H2_ := (Option.bind_some _ _).symm.trans H; with_reducible exact H2_) | with_reducible exact H | (rw [hy258]; exact H) | exact H
 have Ny258 := Aside0.mk hy258
 clear hy258
 by_cases c6 : y258.length + l3.length < 17592186044416
 ·rw [if_pos c6] at H
  have LMc6 := Aside0.mk c6
  clear c6
  obtain ⟨y261, hy261⟩ : ∃ y_ : List Int, y_ = (y258 ++ l3) := ⟨_, rfl⟩
  replace H : (ze.l0 k a0 a1 a2 a4 y261 0 0) = some r := by first | (rw [hy261]; with_reducible exact H) | (have H2_ := (Option.bind_some _ _).symm.trans H; rw [hy261]; with_reducible exact H2_) | (have H2_ := (Option.bind_some _ _).symm.trans H; with_reducible exact H2_) | with_reducible exact H | (rw [hy261]; exact H) | exact H
  have Ny261 := Aside0.mk hy261
  clear hy261
  have H' := Aside0.mk H
  clear H
  go_enter Try.func57, Try.ntmps57
  go_wp2_with (first | ((with_reducible refine zx (N := 21) rfl ?_); refine Kd.y7 (Kd.int .i64) _ 3 ?hg (N := 21) ?hd (xs := ([] : List Int)) (inner := []) (ok := fun _ => True) (okp := fun _ => True) ?hr ?hp (fun _ hk => hk) trivial (Below.refl _ _) (Nat.le_refl _) (by simp) ?_; (case hd => rfl); (case hg => rfl); (case hr => exact sqG); (case hp => exact (qi.none _ _)); intro v259 w7 ho8 hb hg_ hnew_; clear hg_ hnew_; (first | rw [← Ny258.out] at ho8 | (simp only [Int.reduceToNat] at ho8; rw [← Ny258.out] at ho8)); have n0_ := Aside0.mk (Kd.qE ho8 (zI sqB)); have n1_ := Aside0.mk (zj sqB hb); clear HB; have HO260 := n0_; have HB := n1_; clear n0_ n1_; clear hb ho8) | ((with_reducible refine qW (b := .append) (xs := #[.tmp 21, .tmp 22]) rfl ?_); at_builtin; refine Kd.jJ (Kd.int .i64) (w0 := w) w.heap.size rfl (.tmp 21) (.tmp 22) 22 3 (.int .i64 0) 8 rfl Try.underlying22 vU rfl (by decide) (by omega) v259 y258 l3 _ _ _ (fun _ => True) (fun _ => False) rfl rfl ?aO ?aR (fun _ _ h => h) (fun _ h => h.elim) ?aF ?aB ?aS ?aL ?_; (case aR => exact sqC (Kd.z7 HR3.out HB.out)); (case aB => exact sqB); (case aF => exact (fun _ _ => trivial)); (case aO => exact (sqR HO260.out)); (case aS => exact (zI sqB)); (case aL => have := LMc6.out; omega); intro v262 w9 ho hb hg hat; rw [← Ny261.out] at ho; have n0_ := Aside0.mk (hb); have n1_ := Aside0.mk (ho); clear HB; clear HO260; have HB := n0_; have HO263 := n1_; clear n0_ n1_; clear ho hb hg hat))
  go_loopg [12, 13] k (fun kq v12 v13 w' => ∃ (x11_1 : List Int) (x12_1 : Int) (x13_1 : Int), v12 = .int .i64 x12_1 ∧ v13 = .int .i64 x13_1 ∧ Aside0 (ze.l0 kq a0 a1 a2 a4 x11_1 x12_1 x13_1 = some r) ∧ Aside0 (kq ≤ k) ∧ Aside0 (Kd.R (Kd.int .i64) 3 w' w.heap.size (fun _ => True) v262 x11_1) ∧ Aside0 (Below w.heap.size w w'))
  case atStart => exact ⟨(y261), (0), (0), (sqD), (sqD), H', ⟨Nat.le_refl _⟩, ⟨sqR HO263.out⟩, ⟨sqB⟩⟩
  case round =>
   clear H'
   try clear p2
   try clear c3
   try clear c5
   try clear c6
   obtain ⟨x11_1, x12_1, x13_1, rfl, rfl, HA, HK1, HO_11, HB⟩ := hrel
   cases gk with
   | zero => exact absurd HA.out (by simp [ze.l0])
   | succ k1 =>
    have H := HA.out
    clear HA
    simp only [ze.l0] at H
    by_cases c10 : x13_1 < a2
    ·rw [if_pos c10] at H
     have c10b0 : decide (x13_1 < a2) = true := decide_eq_true c10
     clear c10
     replace H := Option.bind_eq_some_iff.mp H
     obtain ⟨t264, A110, H⟩ := H
     replace H : (if t264 = true then (ze.l1 k1 a0 a1 a2 a4 x11_1 x12_1 x13_1 x12_1) else (ze.l0 k1 a0 a1 a2 a4 x11_1 x12_1 (wrap64 (x13_1 + 1)))) = some r := H
     have A11 := Aside0.mk A110
     clear A110
     by_cases c12 : t264 = true
     ·subst c12
      have H1 : (ze.l1 k1 a0 a1 a2 a4 x11_1 x12_1 x13_1 x12_1) = some r := by rw [if_pos rfl] at H; exact H
      clear H
      have H := H1
      clear H1
      have HC13 := Aside0.mk H
      clear H
      go_upto_block 2 with (first | ((with_reducible refine zt (f := 70) rfl ?_); refine zN (some 31) rfl rfl Try.func70 (by kernel_rfl) rfl #[.int .i64 a4, .int .i64 x13_1] rfl sqM ?_; (with_reducible refine (jn.calls a4 x13_1 true _ A11.out).mono ?_); rintro e w' ⟨rfl, ⟨nd, rfl⟩⟩; refine ⟨_, rfl, ?_⟩))
      (try simp only [Act.put, List.setIfInBounds_toArray, List.set_cons_zero, List.set_cons_succ])
      go_cut [14] (fun v14 wc => ∃ (kq : Nat) (x14_12 : Int), v14 = .int .i64 x14_12 ∧ Aside0 (ze.j2 kq a0 a1 a2 a4 x11_1 x12_1 x13_1 x14_12 = some r) ∧ Aside0 (kq ≤ k1) ∧ Aside0 (Kd.R (Kd.int .i64) 3 wc w.heap.size (fun _ => True) v262 x11_1) ∧ Aside0 (Below w.heap.size w wc))
      case first =>
       have H := HC13.out
       clear HC13
       have H' := Aside0.mk H
       clear H
       go_wp2
       go_loopg [14] k1 (fun kq v14 w' => ∃ (x14_2 : Int), v14 = .int .i64 x14_2 ∧ Aside0 (ze.l1 kq a0 a1 a2 a4 x11_1 x12_1 x13_1 x14_2 = some r) ∧ Aside0 (kq ≤ k1) ∧ Aside0 (Kd.R (Kd.int .i64) 3 w' w.heap.size (fun _ => True) v262 x11_1) ∧ Aside0 (Below w.heap.size w w'))
       case atStart => exact ⟨(x12_1), (sqD), H', ⟨Nat.le_refl _⟩, ⟨sqR HO_11.out⟩, ⟨sqB⟩⟩
       case round =>
        clear H'
        try clear c1
        try clear p2
        try clear c3
        try clear c5
        try clear c6
        try clear p6
        try clear c7
        try clear c10
        try clear c10b0
        try clear c12
        try clear p2
        obtain ⟨x14_2, rfl, HA, HK2, HO_11, HB⟩ := hrel
        cases gk with
        | zero => exact absurd HA.out (by simp [ze.l1])
        | succ k2 =>
         have H := HA.out
         clear HA
         simp only [ze.l1] at H
         by_cases c14 : x14_2 < a1
         ·rw [if_pos c14] at H
          have c14b0 : decide (x14_2 < a1) = true := decide_eq_true c14
          clear c14
          (first | rw [c14b0] | (simp only [zd, zf]; rw [c14b0]) | skip)
          obtain ⟨ji15, hji15⟩ : ∃ j_ : Int, (wrap64 ((wrap64 (x14_2 * a2)) + x13_1)) = j_ := ⟨_, rfl⟩
          replace H : (if 0 ≤ (ji15) then (if (ji15) < (x11_1.length : Int) then (if (rd x11_1 (ji15)) = 0 then (ze.l1 k2 a0 a1 a2 a4 x11_1 x12_1 x13_1 (wrap64 (x14_2 + 1))) else (ze.j2 k2 a0 a1 a2 a4 x11_1 x12_1 x13_1 x14_2)) else (none)) else (none)) = some r := by first | (rw [hji15] at H; exact H) | (simp only [hji15] at H ⊢; exact H)
          have hji15w : (IntKind.i64.wrap ((wrap64 (x14_2 * a2)) + x13_1)) = ji15 := (zd _).trans hji15
          by_cases c16 : 0 ≤ (ji15)
          ·rw [if_pos c16] at H
           have c16b0 : decide (0 ≤ (ji15)) = true := decide_eq_true c16
           clear c16
           by_cases c17 : (ji15) < (x11_1.length : Int)
           ·rw [if_pos c17] at H
            have c17b0 : decide ((ji15) < (x11_1.length : Int)) = true := decide_eq_true c17
            clear c17
            by_cases c18 : (rd x11_1 (ji15)) = 0
            ·rw [if_pos c18] at H
             have c18b0 : ((rd x11_1 (ji15)) == 0) = true := beq_iff_eq.mpr c18
             have c18b1 : ((rd x11_1 (ji15)) != 0) = false := bne_eq_false_iff_eq.mpr c18
             clear c18
             have H' := Aside0.mk H
             clear H
             obtain ⟨Ao19, co19, eo19⟩ := Kd.z1 HO_11.out
             subst eo19
             have p265 : 0 ≤ ((ji15) : Int) := of_decide_eq_true sqA
             have q265 : (ji15) < (x11_1.length : Int) := of_decide_eq_true sqA
             obtain ⟨ad265, e265, hx265_0⟩ := Kd.qd (Kd.zC HO_11.out).2.2 (ji15) p265 q265
             cases e265
             replace p265 := eq_true p265
             replace q265 := eq_true q265
             go_wp2
             go_roundg k2
             case measure => have := HK1.out; have := HK2.out; omega
             case rel => exact ⟨(wrap64 (x14_2 + 1)), (sqD), H', ⟨by have := HK1.out; have := HK2.out; omega⟩, ⟨sqR HO_11.out⟩, ⟨sqB⟩⟩
            ·rw [if_neg c18] at H
             have c18b0 : ((rd x11_1 (ji15)) == 0) = false := beq_eq_false_iff_ne.mpr c18
             have c18b1 : ((rd x11_1 (ji15)) != 0) = true := bne_iff_ne.mpr c18
             have H' := Aside0.mk H
             clear H
             obtain ⟨Ao20, co20, eo20⟩ := Kd.z1 HO_11.out
             subst eo20
             have p265 : 0 ≤ ((ji15) : Int) := of_decide_eq_true sqA
             have q265 : (ji15) < (x11_1.length : Int) := of_decide_eq_true sqA
             obtain ⟨ad265, e265, hx265_0⟩ := Kd.qd (Kd.zC HO_11.out).2.2 (ji15) p265 q265
             cases e265
             replace p265 := eq_true p265
             replace q265 := eq_true q265
             go_wp2
             go_meet
             case rel => exact ⟨_, (x14_2), (sqD), H', ⟨by have := HK1.out; have := HK2.out; first | omega | exact Nat.le_refl _⟩, ⟨sqR HO_11.out⟩, ⟨sqB⟩⟩
           ·rw [if_neg c17] at H
            exact absurd H (by simp)
          ·rw [if_neg c16] at H
           exact absurd H (by simp)
         ·rw [if_neg c14] at H
          have c14b0 : decide (x14_2 < a1) = false := decide_eq_false c14
          clear c14
          (first | rw [c14b0] | (simp only [zd, zf]; rw [c14b0]) | skip)
          have H' := Aside0.mk H
          clear H
          go_wp2
          go_meet
          case rel => exact ⟨_, (x14_2), (sqD), H', ⟨by have := HK1.out; have := HK2.out; first | omega | exact Nat.le_refl _⟩, ⟨sqR HO_11.out⟩, ⟨sqB⟩⟩
      case rest =>
       clear HC13
       try clear c1
       try clear p2
       try clear q2
       try clear hx2
       try clear c3
       try clear c5
       try clear c6
       try clear p6
       try clear c7
       try clear c10
       try clear c10b0
       try clear c12
       try clear c14
       try clear c14b0
       try clear c16
       try clear c16b0
       try clear c17
       try clear c17b0
       try clear c18
       try clear c18b0
       try clear c18b1
       try clear hx265_0
       try clear p2
       try clear p265
       try clear p6
       try clear q265
       obtain ⟨kq, x14_12, rfl, HA, HJ12, HO_11, HB⟩ := hcut
       cases kq with
       | zero => exact absurd HA.out (by simp [ze.j2])
       | succ kj12 =>
        have H := HA.out
        clear HA
        simp only [ze.j2] at H
        by_cases c21 : x14_12 ≥ a1
        ·rw [if_pos c21] at H
         have c21b0 : decide (a1 ≤ x14_12) = true := decide_eq_true c21
         clear c21
         have H' := Aside0.mk H
         clear H
         go_wp2
         go_roundg kj12
         case measure => have := HK1.out; have := HJ12.out; omega
         case rel => exact ⟨(x11_1), (x12_1), (wrap64 (x13_1 + 1)), (sqD), (sqD), H', ⟨by have := HK1.out; have := HJ12.out; omega⟩, ⟨sqR HO_11.out⟩, ⟨sqB⟩⟩
        ·rw [if_neg c21] at H
         have c21b0 : decide (a1 ≤ x14_12) = false := decide_eq_false c21
         clear c21
         have H' := Aside0.mk H
         clear H
         go_wp2
         go_loopg [15] kj12 (fun kq v15 w' => ∃ (x11_3 : List Int) (x15_3 : Int), v15 = .int .i64 x15_3 ∧ Aside0 (ze.l2 kq a0 a1 a2 a4 x11_3 x12_1 x13_1 x14_12 x15_3 = some r) ∧ Aside0 (kq ≤ kj12) ∧ Aside0 (Kd.R (Kd.int .i64) 3 w' w.heap.size (fun _ => True) v262 x11_3) ∧ Aside0 (Below w.heap.size w w'))
         case atStart => exact ⟨(x11_1), (0), (sqD), H', ⟨Nat.le_refl _⟩, ⟨sqR HO_11.out⟩, ⟨sqB⟩⟩
         case round =>
          clear H'
          try clear c1
          try clear c2
          try clear p2
          try clear q2
          try clear hx2
          try clear c3
          try clear c5
          try clear c6
          try clear p6
          try clear c7
          try clear c10
          try clear c10b0
          try clear c12
          try clear c14
          try clear c14b0
          try clear c16
          try clear c16b0
          try clear c17
          try clear c17b0
          try clear c18
          try clear c18b0
          try clear c18b1
          try clear c21
          try clear c21b0
          try clear hx265_0
          try clear p2
          try clear p265
          try clear p6
          try clear q2
          try clear q265
          obtain ⟨x11_3, x15_3, rfl, HA, HK3, HO_11, HB⟩ := hrel
          cases gk with
          | zero => exact absurd HA.out (by simp [ze.l2])
          | succ k3 =>
           have H := HA.out
           clear HA
           simp only [ze.l2] at H
           by_cases c22 : x15_3 < a2
           ·rw [if_pos c22] at H
            have c22b0 : decide (x15_3 < a2) = true := decide_eq_true c22
            clear c22
            obtain ⟨ji23, hji23⟩ : ∃ j_ : Int, (wrap64 ((wrap64 (x14_12 * a2)) + x15_3)) = j_ := ⟨_, rfl⟩
            replace H : (if 0 ≤ (ji23) then (if (ji23) < (x11_3.length : Int) then (if 0 ≤ (wrap64 ((wrap64 (x12_1 * a2)) + x15_3)) then (if (wrap64 ((wrap64 (x12_1 * a2)) + x15_3)) < (x11_3.length : Int) then (ze.l2 k3 a0 a1 a2 a4 ((x11_3.set ((ji23) : Int).toNat (rd x11_3 (wrap64 ((wrap64 (x12_1 * a2)) + x15_3)))).set ((wrap64 ((wrap64 (x12_1 * a2)) + x15_3)) : Int).toNat (rd x11_3 (ji23))) x12_1 x13_1 x14_12 (wrap64 (x15_3 + 1))) else (none)) else (none)) else (none)) else (none)) = some r := by first | (rw [hji23] at H; exact H) | (simp only [hji23] at H ⊢; exact H)
            have hji23w : (IntKind.i64.wrap ((wrap64 (x14_12 * a2)) + x15_3)) = ji23 := (zd _).trans hji23
            by_cases c24 : 0 ≤ (ji23)
            ·rw [if_pos c24] at H
             have c24b0 : decide (0 ≤ (ji23)) = true := decide_eq_true c24
             clear c24
             by_cases c25 : (ji23) < (x11_3.length : Int)
             ·rw [if_pos c25] at H
              have c25b0 : decide ((ji23) < (x11_3.length : Int)) = true := decide_eq_true c25
              clear c25
              obtain ⟨ji26, hji26⟩ : ∃ j_ : Int, (wrap64 ((wrap64 (x12_1 * a2)) + x15_3)) = j_ := ⟨_, rfl⟩
              replace H : (if 0 ≤ (ji26) then (if (ji26) < (x11_3.length : Int) then (ze.l2 k3 a0 a1 a2 a4 ((x11_3.set ((ji23) : Int).toNat (rd x11_3 (ji26))).set ((ji26) : Int).toNat (rd x11_3 (ji23))) x12_1 x13_1 x14_12 (wrap64 (x15_3 + 1))) else (none)) else (none)) = some r := by first | (rw [hji26] at H; exact H) | (simp only [hji26] at H ⊢; exact H)
              have hji26w : (IntKind.i64.wrap ((wrap64 (x12_1 * a2)) + x15_3)) = ji26 := (zd _).trans hji26
              by_cases c27 : 0 ≤ (ji26)
              ·rw [if_pos c27] at H
               have c27b0 : decide (0 ≤ (ji26)) = true := decide_eq_true c27
               clear c27
               by_cases c28 : (ji26) < (x11_3.length : Int)
               ·rw [if_pos c28] at H
                have c28b0 : decide ((ji26) < (x11_3.length : Int)) = true := decide_eq_true c28
                clear c28
                obtain ⟨y268, hy268⟩ : ∃ y_ : List Int, y_ = (x11_3.set ((ji23) : Int).toNat (rd x11_3 (ji26))) := ⟨_, rfl⟩
                replace H : (ze.l2 k3 a0 a1 a2 a4 (y268.set ((ji26) : Int).toNat (rd x11_3 (ji23))) x12_1 x13_1 x14_12 (wrap64 (x15_3 + 1))) = some r := by first | (rw [hy268]; with_reducible exact H) | (have H2_ := (Option.bind_some _ _).symm.trans H; rw [hy268]; with_reducible exact H2_) | (have H2_ := (Option.bind_some _ _).symm.trans H; with_reducible exact H2_) | with_reducible exact H | (rw [hy268]; exact H) | exact H
                have Ny268 := Aside0.mk hy268
                clear hy268
                obtain ⟨y269, hy269⟩ : ∃ y_ : List Int, y_ = (y268.set ((ji26) : Int).toNat (rd x11_3 (ji23))) := ⟨_, rfl⟩
                replace H : (ze.l2 k3 a0 a1 a2 a4 y269 x12_1 x13_1 x14_12 (wrap64 (x15_3 + 1))) = some r := by first | (rw [hy269]; with_reducible exact H) | (have H2_ := (Option.bind_some _ _).symm.trans H; rw [hy269]; with_reducible exact H2_) | (have H2_ := (Option.bind_some _ _).symm.trans H; with_reducible exact H2_) | with_reducible exact H | (rw [hy269]; exact H) | exact H
                have Ny269 := Aside0.mk hy269
                clear hy269
                have H' := Aside0.mk H
                clear H
                obtain ⟨Ao31, co31, eo31⟩ := Kd.z1 HO_11.out
                subst eo31
                have p266 : 0 ≤ ((ji23) : Int) := of_decide_eq_true sqA
                have q266 : (ji23) < (x11_3.length : Int) := of_decide_eq_true sqA
                obtain ⟨ad266, e266, hx266_0⟩ := Kd.qd (Kd.zC HO_11.out).2.2 (ji23) p266 q266
                cases e266
                replace p266 := eq_true p266
                replace q266 := eq_true q266
                have p267 : 0 ≤ ((ji26) : Int) := of_decide_eq_true sqA
                have q267 : (ji26) < (x11_3.length : Int) := of_decide_eq_true sqA
                obtain ⟨ad267, e267, hx267_0⟩ := Kd.qd (Kd.zC HO_11.out).2.2 (ji26) p267 q267
                obtain rfl : ad266 = ad267 := (by injection e267)
                replace p267 := eq_true p267
                replace q267 := eq_true q267
                have p29 : 0 ≤ ((ji23) : Int) := of_decide_eq_true sqA
                have q29 : ((ji23) : Int) < ((x11_3.length : Int) : Int) := of_decide_eq_true sqA
                obtain ⟨go29, co29, eo29, gb29, gl29, cl29, HG29⟩ := Kd.vu HO_11.out (by omega)
                (first | cases eo29 | (injection eo29 with ea_ en_ ec_; (first | subst ea_ | (injection ea_ with ea_; subst ea_)); subst ec_; clear en_))
                (try simp only [add_plain] at *)
                have GB29 := Aside0.mk gb29
                have GG29 := Aside0.mk HG29
                clear gb29 gl29 HG29
                (first | simp only [add_plain] at hx266_0 | skip)
                (first | simp only [add_plain] at hx267_0 | skip)
                obtain ⟨hx29_0, hf29_0⟩ := Kd.jk 0 HO_11.out ((ji23) : Int) p29 q29
                replace p29 := eq_true p29
                replace q29 := eq_true q29
                have HP32 := Kd.yt HO_11.out ((ji23) : Int) (rd x11_3 (ji26))
                go_wp2_with (first | ((with_reducible refine jF (t := 3) (p := 80) rfl ?_); refine jx (t := 3) (p := 80) (v := ?vo_w33) (w1 := (wr.setCell ⟨go29, ((ji23) : Int).toNat, none⟩ (.int .i64 (rd x11_3 (ji26))))) ?hg ?ho ?hn ?hr ?_; (case ho => rfl); (case hg => rfl); (case hn => rfl); (case hr => exact sqG); intro w33 hw; have hg : wr.grownBy w33 (some go29) := (by rw [hw]; exact HP32.2); have hp_ : Kd.R (Kd.int .i64) 3 w33 w.heap.size (fun _ => True) (.slice (some ⟨go29, 0, none⟩) x11_3.length co31) y268 := (by rw [hw, Ny268.out]; exact HP32.1); clear HP32; have n0_ := Aside0.mk (hp_); have n1_ := Aside0.mk ((by rw [hw]; exact zM (HB.out) GB29.out : Below w.heap.size w w33)); clear HO_11; clear HB; have HO_11 := n0_; have HB := n1_; clear n0_ n1_; clear hg hw hp_; have p30 : 0 ≤ ((ji26) : Int) := of_decide_eq_true sqA; have q30 : ((ji26) : Int) < ((x11_3.length : Int) : Int) := of_decide_eq_true sqA; obtain ⟨hx30_0, hf30_0⟩ := Kd.jk 0 HO_11.out ((ji26) : Int) p30 q30; replace p30 := eq_true p30; replace q30 := eq_true q30; obtain ⟨hy34_, hz34_⟩ := Kd.jk 0 HO_11.out ((ji26) : Int) (of_decide_eq_true sqA) (of_decide_eq_true sqA); have HP34 := Kd.yt HO_11.out ((ji26) : Int) (rd x11_3 (ji23))) | ((with_reducible refine jF (t := 3) (p := 88) rfl ?_); refine jx (t := 3) (p := 88) (v := ?vo_w35) (w1 := (w33.setCell ⟨go29, ((ji26) : Int).toNat, none⟩ (.int .i64 (rd x11_3 (ji23))))) ?hg ?ho ?hn ?hr ?_; (case ho => rfl); (case hg => rfl); (case hn => rfl); (case hr => exact sqG); intro w35 hw; have hg : w33.grownBy w35 (some go29) := (by rw [hw]; exact HP34.2); have hp_ : Kd.R (Kd.int .i64) 3 w35 w.heap.size (fun _ => True) (.slice (some ⟨go29, 0, none⟩) x11_3.length co31) y269 := (by rw [hw, Ny269.out]; exact HP34.1); clear HP34; have n0_ := Aside0.mk (hp_); have n1_ := Aside0.mk ((by rw [hw]; exact zM (HB.out) GB29.out : Below w.heap.size w w35)); clear HO_11; clear HB; have HO_11 := n0_; have HB := n1_; clear n0_ n1_; clear hg hw hp_))
                go_roundg k3
                case measure => have := HK1.out; have := HJ12.out; have := HK3.out; omega
                case rel => exact ⟨(y269), (wrap64 (x15_3 + 1)), (sqD), H', ⟨by have := HK1.out; have := HJ12.out; have := HK3.out; omega⟩, ⟨sqR HO_11.out⟩, ⟨sqB⟩⟩
               ·rw [if_neg c28] at H
                exact absurd H (by simp)
              ·rw [if_neg c27] at H
               exact absurd H (by simp)
             ·rw [if_neg c25] at H
              exact absurd H (by simp)
            ·rw [if_neg c24] at H
             exact absurd H (by simp)
           ·rw [if_neg c22] at H
            have c22b0 : decide (x15_3 < a2) = false := decide_eq_false c22
            clear c22
            have H' := Aside0.mk H
            clear H
            go_wp2
            go_loopg [17] k3 (fun kq v17 w' => ∃ (x11_4 : List Int) (x17_4 : Int), v17 = .int .i64 x17_4 ∧ Aside0 (ze.l3 kq a0 a1 a2 a4 x11_4 x12_1 x13_1 x17_4 = some r) ∧ Aside0 (kq ≤ k3) ∧ Aside0 (Kd.R (Kd.int .i64) 3 w' w.heap.size (fun _ => True) v262 x11_4) ∧ Aside0 (Below w.heap.size w w'))
            case atStart => exact ⟨(x11_3), (wrap64 (x12_1 + 1)), (sqD), H', ⟨Nat.le_refl _⟩, ⟨sqR HO_11.out⟩, ⟨sqB⟩⟩
            case round =>
             clear H'
             try clear c1
             try clear c2
             try clear p2
             try clear q2
             try clear hx2
             try clear c3
             try clear p3
             try clear q3
             try clear hx3
             try clear c5
             try clear c6
             try clear p6
             try clear c7
             try clear c10
             try clear c10b0
             try clear c12
             try clear c14
             try clear c14b0
             try clear c16
             try clear c16b0
             try clear c17
             try clear c17b0
             try clear c18
             try clear c18b0
             try clear c18b1
             try clear c21
             try clear c21b0
             try clear c22
             try clear c22b0
             try clear c24
             try clear c24b0
             try clear c25
             try clear c25b0
             try clear p26
             try clear q26
             try clear hx26
             try clear c27
             try clear c27b0
             try clear c28
             try clear c28b0
             try clear p29
             try clear q29
             try clear hx29
             try clear hf29
             try clear p30
             try clear q30
             try clear hx30
             try clear hf30
             try clear hx265_0
             try clear hx266_0
             try clear hx267_0
             try clear hx29_0
             try clear hx30_0
             try clear p2
             try clear p265
             try clear p266
             try clear p267
             try clear p29
             try clear p30
             try clear p6
             try clear q2
             try clear q265
             try clear q266
             try clear q267
             try clear q29
             try clear q30
             obtain ⟨x11_4, x17_4, rfl, HA, HK4, HO_11, HB⟩ := hrel
             cases gk with
             | zero => exact absurd HA.out (by simp [ze.l3])
             | succ k4 =>
              have H := HA.out
              clear HA
              simp only [ze.l3] at H
              by_cases c36 : x17_4 < a1
              ·rw [if_pos c36] at H
               have c36b0 : decide (x17_4 < a1) = true := decide_eq_true c36
               clear c36
               obtain ⟨ji37, hji37⟩ : ∃ j_ : Int, (wrap64 ((wrap64 (x17_4 * a2)) + x13_1)) = j_ := ⟨_, rfl⟩
               replace H : (if 0 ≤ (ji37) then (if (ji37) < (x11_4.length : Int) then (if 0 ≤ (wrap64 ((wrap64 (x12_1 * a2)) + x13_1)) then (if (wrap64 ((wrap64 (x12_1 * a2)) + x13_1)) < (x11_4.length : Int) then (ze.l4 k4 a0 a1 a2 a4 x11_4 x12_1 x13_1 x17_4 (rd x11_4 (ji37)) (rd x11_4 (wrap64 ((wrap64 (x12_1 * a2)) + x13_1))) 0) else (none)) else (none)) else (none)) else (none)) = some r := by first | (rw [hji37] at H; exact H) | (simp only [hji37] at H ⊢; exact H)
               have hji37w : (IntKind.i64.wrap ((wrap64 (x17_4 * a2)) + x13_1)) = ji37 := (zd _).trans hji37
               by_cases c38 : 0 ≤ (ji37)
               ·rw [if_pos c38] at H
                have c38b0 : decide (0 ≤ (ji37)) = true := decide_eq_true c38
                clear c38
                by_cases c39 : (ji37) < (x11_4.length : Int)
                ·rw [if_pos c39] at H
                 have c39b0 : decide ((ji37) < (x11_4.length : Int)) = true := decide_eq_true c39
                 clear c39
                 obtain ⟨ji40, hji40⟩ : ∃ j_ : Int, (wrap64 ((wrap64 (x12_1 * a2)) + x13_1)) = j_ := ⟨_, rfl⟩
                 replace H : (if 0 ≤ (ji40) then (if (ji40) < (x11_4.length : Int) then (ze.l4 k4 a0 a1 a2 a4 x11_4 x12_1 x13_1 x17_4 (rd x11_4 (ji37)) (rd x11_4 (ji40)) 0) else (none)) else (none)) = some r := by first | (rw [hji40] at H; exact H) | (simp only [hji40] at H ⊢; exact H)
                 have hji40w : (IntKind.i64.wrap ((wrap64 (x12_1 * a2)) + x13_1)) = ji40 := (zd _).trans hji40
                 by_cases c41 : 0 ≤ (ji40)
                 ·rw [if_pos c41] at H
                  have c41b0 : decide (0 ≤ (ji40)) = true := decide_eq_true c41
                  clear c41
                  by_cases c42 : (ji40) < (x11_4.length : Int)
                  ·rw [if_pos c42] at H
                   have c42b0 : decide ((ji40) < (x11_4.length : Int)) = true := decide_eq_true c42
                   clear c42
                   have H' := Aside0.mk H
                   clear H
                   obtain ⟨Ao43, co43, eo43⟩ := Kd.z1 HO_11.out
                   subst eo43
                   have p270 : 0 ≤ ((ji37) : Int) := of_decide_eq_true sqA
                   have q270 : (ji37) < (x11_4.length : Int) := of_decide_eq_true sqA
                   obtain ⟨ad270, e270, hx270_0⟩ := Kd.qd (Kd.zC HO_11.out).2.2 (ji37) p270 q270
                   cases e270
                   replace p270 := eq_true p270
                   replace q270 := eq_true q270
                   have p271 : 0 ≤ ((ji40) : Int) := of_decide_eq_true sqA
                   have q271 : (ji40) < (x11_4.length : Int) := of_decide_eq_true sqA
                   obtain ⟨ad271, e271, hx271_0⟩ := Kd.qd (Kd.zC HO_11.out).2.2 (ji40) p271 q271
                   obtain rfl : ad270 = ad271 := (by injection e271)
                   replace p271 := eq_true p271
                   replace q271 := eq_true q271
                   go_wp2
                   go_loopg [20] k4 (fun kq v20 w' => ∃ (x11_5 : List Int) (x20_5 : Int), v20 = .int .i64 x20_5 ∧ Aside0 (ze.l4 kq a0 a1 a2 a4 x11_5 x12_1 x13_1 x17_4 (rd x11_4 (ji37)) (rd x11_4 (ji40)) x20_5 = some r) ∧ Aside0 (kq ≤ k4) ∧ Aside0 (Kd.R (Kd.int .i64) 3 w' w.heap.size (fun _ => True) (.slice (some ad270) x11_4.length co43) x11_5) ∧ Aside0 (Below w.heap.size w w'))
                   case atStart => exact ⟨(x11_4), (0), (sqD), H', ⟨Nat.le_refl _⟩, ⟨sqR HO_11.out⟩, ⟨sqB⟩⟩
                   case round =>
                    clear H'
                    try clear c1
                    try clear c2
                    try clear p2
                    try clear q2
                    try clear hx2
                    try clear c3
                    try clear p3
                    try clear q3
                    try clear hx3
                    try clear c4
                    try clear c5
                    try clear c6
                    try clear p6
                    try clear c7
                    try clear c10
                    try clear c10b0
                    try clear c12
                    try clear c14
                    try clear c14b0
                    try clear c16
                    try clear c16b0
                    try clear c17
                    try clear c17b0
                    try clear c18
                    try clear c18b0
                    try clear c18b1
                    try clear c21
                    try clear c21b0
                    try clear c22
                    try clear c22b0
                    try clear c24
                    try clear c24b0
                    try clear c25
                    try clear c25b0
                    try clear p26
                    try clear q26
                    try clear hx26
                    try clear c27
                    try clear c27b0
                    try clear p27
                    try clear q27
                    try clear hx27
                    try clear c28
                    try clear c28b0
                    try clear p29
                    try clear q29
                    try clear hx29
                    try clear hf29
                    try clear p30
                    try clear q30
                    try clear hx30
                    try clear hf30
                    try clear c36
                    try clear c36b0
                    try clear c38
                    try clear c38b0
                    try clear c39
                    try clear c39b0
                    try clear c41
                    try clear c41b0
                    try clear c42
                    try clear c42b0
                    try clear hx265_0
                    try clear hx266_0
                    try clear hx267_0
                    try clear hx270_0
                    try clear hx271_0
                    try clear hx29_0
                    try clear hx30_0
                    try clear p2
                    try clear p26
                    try clear p265
                    try clear p266
                    try clear p267
                    try clear p270
                    try clear p271
                    try clear p29
                    try clear p3
                    try clear p30
                    try clear p6
                    try clear q2
                    try clear q26
                    try clear q265
                    try clear q266
                    try clear q267
                    try clear q270
                    try clear q271
                    try clear q29
                    try clear q3
                    try clear q30
                    obtain ⟨x11_5, x20_5, rfl, HA, HK5, HO_11, HB⟩ := hrel
                    have hl11_5 := (Kd.zC HO_11.out).1
                    rw [hl11_5] at HO_11
                    (try simp only [hl11_5])
                    cases gk with
                    | zero => exact absurd HA.out (by simp [ze.l4])
                    | succ k5 =>
                     have H := HA.out
                     clear HA
                     simp only [ze.l4] at H
                     by_cases c44 : x20_5 < a2
                     ·rw [if_pos c44] at H
                      have c44b0 : decide (x20_5 < a2) = true := decide_eq_true c44
                      clear c44
                      obtain ⟨ji45, hji45⟩ : ∃ j_ : Int, (wrap64 ((wrap64 (x17_4 * a2)) + x20_5)) = j_ := ⟨_, rfl⟩
                      replace H : (if 0 ≤ (ji45) then (if (ji45) < (x11_5.length : Int) then (if 0 ≤ (wrap64 ((wrap64 (x12_1 * a2)) + x20_5)) then (if (wrap64 ((wrap64 (x12_1 * a2)) + x20_5)) < (x11_5.length : Int) then (if a0 = 0 then (none) else (ze.l4 k5 a0 a1 a2 a4 (x11_5.set ((ji45) : Int).toNat (Int.tmod (wrap64 ((Int.tmod (wrap64 ((wrap64 ((rd x11_5 (ji45)) * (rd x11_4 (ji40)))) - (wrap64 ((rd x11_5 (wrap64 ((wrap64 (x12_1 * a2)) + x20_5))) * (rd x11_4 (ji37)))))) a0) + a0)) a0)) x12_1 x13_1 x17_4 (rd x11_4 (ji37)) (rd x11_4 (ji40)) (wrap64 (x20_5 + 1)))) else (none)) else (none)) else (none)) else (none)) = some r := by first | (rw [hji45] at H; exact H) | (simp only [hji45] at H ⊢; exact H)
                      have hji45w : (IntKind.i64.wrap ((wrap64 (x17_4 * a2)) + x20_5)) = ji45 := (zd _).trans hji45
                      by_cases c46 : 0 ≤ (ji45)
                      ·rw [if_pos c46] at H
                       have c46b0 : decide (0 ≤ (ji45)) = true := decide_eq_true c46
                       clear c46
                       by_cases c47 : (ji45) < (x11_5.length : Int)
                       ·rw [if_pos c47] at H
                        have c47b0 : decide ((ji45) < (x11_5.length : Int)) = true := decide_eq_true c47
                        (try simp only [hl11_5] at c47b0)
                        clear c47
                        obtain ⟨ji48, hji48⟩ : ∃ j_ : Int, (wrap64 ((wrap64 (x12_1 * a2)) + x20_5)) = j_ := ⟨_, rfl⟩
                        replace H : (if 0 ≤ (ji48) then (if (ji48) < (x11_5.length : Int) then (if a0 = 0 then (none) else (ze.l4 k5 a0 a1 a2 a4 (x11_5.set ((ji45) : Int).toNat (Int.tmod (wrap64 ((Int.tmod (wrap64 ((wrap64 ((rd x11_5 (ji45)) * (rd x11_4 (ji40)))) - (wrap64 ((rd x11_5 (ji48)) * (rd x11_4 (ji37)))))) a0) + a0)) a0)) x12_1 x13_1 x17_4 (rd x11_4 (ji37)) (rd x11_4 (ji40)) (wrap64 (x20_5 + 1)))) else (none)) else (none)) = some r := by first | (rw [hji48] at H; exact H) | (simp only [hji48] at H ⊢; exact H)
                        have hji48w : (IntKind.i64.wrap ((wrap64 (x12_1 * a2)) + x20_5)) = ji48 := (zd _).trans hji48
                        by_cases c49 : 0 ≤ (ji48)
                        ·rw [if_pos c49] at H
                         have c49b0 : decide (0 ≤ (ji48)) = true := decide_eq_true c49
                         clear c49
                         by_cases c50 : (ji48) < (x11_5.length : Int)
                         ·rw [if_pos c50] at H
                          have c50b0 : decide ((ji48) < (x11_5.length : Int)) = true := decide_eq_true c50
                          (try simp only [hl11_5] at c50b0)
                          clear c50
                          by_cases c51 : a0 = 0
                          ·rw [if_pos c51] at H
                           exact absurd H (by simp)
                          ·rw [if_neg c51] at H
                           have c51b0 : (a0 == 0) = false := beq_eq_false_iff_ne.mpr c51
                           have c51b1 : (a0 != 0) = true := bne_iff_ne.mpr c51
                           obtain ⟨y274, hy274⟩ : ∃ y_ : List Int, y_ = (x11_5.set ((ji45) : Int).toNat (Int.tmod (wrap64 ((Int.tmod (wrap64 ((wrap64 ((rd x11_5 (ji45)) * (rd x11_4 (ji40)))) - (wrap64 ((rd x11_5 (ji48)) * (rd x11_4 (ji37)))))) a0) + a0)) a0)) := ⟨_, rfl⟩
                           replace H : (ze.l4 k5 a0 a1 a2 a4 y274 x12_1 x13_1 x17_4 (rd x11_4 (ji37)) (rd x11_4 (ji40)) (wrap64 (x20_5 + 1))) = some r := by first | (rw [hy274]; with_reducible exact H) | (have H2_ := (Option.bind_some _ _).symm.trans H; rw [hy274]; with_reducible exact H2_) | (have H2_ := (Option.bind_some _ _).symm.trans H; with_reducible exact H2_) | with_reducible exact H | (rw [hy274]; exact H) | exact H
                           have Ny274 := Aside0.mk hy274
                           clear hy274
                           have H' := Aside0.mk H
                           clear H
                           try go_wp2
                           have n0_ := Aside0.mk (Kd.jt HO_11.out)
                           have n1_ := Aside0.mk (zL HB.out)
                           clear HO_11 HB; have HO_11 := n0_; have HB := n1_; clear n0_ n1_
                           have p272 : 0 ≤ ((ji45) : Int) := of_decide_eq_true sqA
                           have q272 : (ji45) < (x11_5.length : Int) := of_decide_eq_true sqA
                           obtain ⟨ad272, e272, hx272_0⟩ := Kd.qd (Kd.zC HO_11.out).2.2 (ji45) p272 q272
                           obtain rfl : ad270 = ad272 := (by injection e272)
                           replace p272 := eq_true p272
                           replace q272 := eq_true q272
                           have p273 : 0 ≤ ((ji48) : Int) := of_decide_eq_true sqA
                           have q273 : (ji48) < (x11_5.length : Int) := of_decide_eq_true sqA
                           obtain ⟨ad273, e273, hx273_0⟩ := Kd.qd (Kd.zC HO_11.out).2.2 (ji48) p273 q273
                           obtain rfl : ad270 = ad273 := (by injection e273)
                           replace p273 := eq_true p273
                           replace q273 := eq_true q273
                           have p52 : 0 ≤ ((ji45) : Int) := of_decide_eq_true sqA
                           have q52 : ((ji45) : Int) < ((x11_5.length : Int) : Int) := of_decide_eq_true sqA
                           obtain ⟨go52, co52, eo52, gb52, gl52, cl52, HG52⟩ := Kd.vu HO_11.out (by omega)
                           (first | cases eo52 | (injection eo52 with ea_ en_ ec_; (first | subst ea_ | (injection ea_ with ea_; subst ea_)); subst ec_; clear en_))
                           (try simp only [add_plain] at *)
                           have GB52 := Aside0.mk gb52
                           have GG52 := Aside0.mk HG52
                           clear gb52 gl52 HG52
                           (first | simp only [add_plain] at hx270_0 | skip)
                           (first | simp only [add_plain] at hx271_0 | skip)
                           (first | simp only [add_plain] at hx272_0 | skip)
                           (first | simp only [add_plain] at hx273_0 | skip)
                           obtain ⟨hx52_0, hf52_0⟩ := Kd.jk 0 HO_11.out ((ji45) : Int) p52 q52
                           replace p52 := eq_true p52
                           replace q52 := eq_true q52
                           have HP54 := Kd.Qg HO_11.out ((ji45) : Int) (Int.tmod (wrap64 ((Int.tmod (wrap64 ((wrap64 ((rd x11_5 (ji45)) * (rd x11_4 (ji40)))) - (wrap64 ((rd x11_5 (ji48)) * (rd x11_4 (ji37)))))) a0) + a0)) a0)
                           rw [← Ny274.out] at HP54
                           have HQ54 := Aside0.mk HP54
                           clear HP54
                           refine jU (n := 35) (S := fun w' => w'.cell? ⟨go52, ((ji45)).toNat, none⟩ = some (.int .i64 (rd x11_5 (ji45))) ∧ w'.cell? ⟨go52, ((ji48)).toNat, none⟩ = some (.int .i64 (rd x11_5 (ji48)))) (ds := [34]) #[false, false, false, false, false, false, false, false, false, false, false, false, false, false, false, false, false, false, false, false, false, false, false, false, false, false, false, false, false, false, false, false, false, false, false] (by kernel_rfl) rfl rfl ⟨hx272_0, hx273_0⟩ (fun hHeld => ?_); refine qQ ze.Y8 ze.YG (fun HT_ HW_ => ?_)
                           generalize wr.drew = w53 at HO_11 HB GG52 HQ54 hf52_0 hx272_0 hx273_0 hx52_0 hHeld ⊢
                           refine zo (i := 0) (N := some 117) (v := ?_) (a' := ?_) #[true, false, false, false, false, false, false, false, false, false, false, false, false, false, false, false, false, false, false, false, false, false, false, false, false, false, false, false, false, false, false, false, false, false, false] rfl rfl (zh HT_.out (by kernel_rfl)) (fun _ _ _ h => h) (Or.inl ⟨by rfl, ?_⟩) ?_ ?_
                           rotate_left
                           ·intro w'; go_simp; with_reducible rfl
                           rotate_left
                           ·simp only [Act.put, List.setIfInBounds_toArray, List.set_cons_zero, List.set_cons_succ, zd, zf]; rfl
                           refine zo (i := 1) (N := some 118) (v := ?_) (a' := ?_) #[true, true, false, false, false, false, false, false, false, false, false, false, false, false, false, false, false, false, false, false, false, false, false, false, false, false, false, false, false, false, false, false, false, false, false] rfl rfl (zh HT_.out (by kernel_rfl)) (fun _ _ _ h => h) (Or.inl ⟨by rfl, ?_⟩) ?_ ?_
                           rotate_left
                           ·intro w'; go_simp; with_reducible rfl
                           rotate_left
                           ·simp only [Act.put, List.setIfInBounds_toArray, List.set_cons_zero, List.set_cons_succ, zd, zf]; rfl
                           refine zo (i := 2) (N := some 119) (v := ?_) (a' := ?_) #[true, true, true, false, false, false, false, false, false, false, false, false, false, false, false, false, false, false, false, false, false, false, false, false, false, false, false, false, false, false, false, false, false, false, false] rfl rfl (zh HT_.out (by kernel_rfl)) (fun _ _ _ h => h) (Or.inl ⟨by rfl, ?_⟩) ?_ ?_
                           rotate_left
                           ·intro w'; go_simp; with_reducible rfl
                           rotate_left
                           ·simp only [Act.put, List.setIfInBounds_toArray, List.set_cons_zero, List.set_cons_succ, zd, zf]; rfl
                           refine zo (i := 3) (N := some 120) (v := ?_) (a' := ?_) #[true, true, true, true, false, false, false, false, false, false, false, false, false, false, false, false, false, false, false, false, false, false, false, false, false, false, false, false, false, false, false, false, false, false, false] rfl rfl (zh HT_.out (by kernel_rfl)) (fun _ _ _ h => h) (Or.inl ⟨by rfl, ?_⟩) ?_ ?_
                           rotate_left
                           ·intro w'; go_simp; with_reducible rfl
                           rotate_left
                           ·simp only [Act.put, List.setIfInBounds_toArray, List.set_cons_zero, List.set_cons_succ, zd, zf]; rfl
                           refine zo (i := 4) (N := some 121) (v := ?_) (a' := ?_) #[true, true, true, true, true, false, false, false, false, false, false, false, false, false, false, false, false, false, false, false, false, false, false, false, false, false, false, false, false, false, false, false, false, false, false] rfl rfl (zh HT_.out (by kernel_rfl)) (fun _ _ _ h => h) (Or.inl ⟨by rfl, ?_⟩) ?_ ?_
                           rotate_left
                           ·intro w'; go_simp; with_reducible rfl
                           rotate_left
                           ·simp only [Act.put, List.setIfInBounds_toArray, List.set_cons_zero, List.set_cons_succ, zd, zf]; rfl
                           refine zo (i := 5) (N := some 122) (v := ?_) (a' := ?_) #[true, true, true, true, true, true, false, false, false, false, false, false, false, false, false, false, false, false, false, false, false, false, false, false, false, false, false, false, false, false, false, false, false, false, false] rfl rfl (zh HT_.out (by kernel_rfl)) (fun _ _ _ h => h) (Or.inl ⟨by rfl, ?_⟩) ?_ ?_
                           rotate_left
                           ·intro w'; go_simp; with_reducible rfl
                           rotate_left
                           ·simp only [Act.put, List.setIfInBounds_toArray, List.set_cons_zero, List.set_cons_succ, zd, zf]; rfl
                           refine zo (i := 6) (N := some 123) (v := ?_) (a' := ?_) #[true, true, true, true, true, true, true, false, false, false, false, false, false, false, false, false, false, false, false, false, false, false, false, false, false, false, false, false, false, false, false, false, false, false, false] rfl rfl (zh HT_.out (by kernel_rfl)) (fun _ _ _ h => h) (Or.inl ⟨by rfl, ?_⟩) ?_ ?_
                           rotate_left
                           ·intro w'; go_simp; with_reducible rfl
                           rotate_left
                           ·simp only [Act.put, List.setIfInBounds_toArray, List.set_cons_zero, List.set_cons_succ, zd, zf]; rfl
                           refine zo (i := 7) (N := some 124) (v := ?_) (a' := ?_) #[true, true, true, true, true, true, true, true, false, false, false, false, false, false, false, false, false, false, false, false, false, false, false, false, false, false, false, false, false, false, false, false, false, false, false] rfl rfl (zh HT_.out (by kernel_rfl)) (fun _ _ _ h => h) (Or.inl ⟨by rfl, ?_⟩) ?_ ?_
                           rotate_left
                           ·intro w'; go_simp; with_reducible rfl
                           rotate_left
                           ·simp only [Act.put, List.setIfInBounds_toArray, List.set_cons_zero, List.set_cons_succ, zd, zf]; rfl
                           refine zo (i := 8) (N := some 125) (v := ?_) (a' := ?_) #[true, true, true, true, true, true, true, true, true, false, false, false, false, false, false, false, false, false, false, false, false, false, false, false, false, false, false, false, false, false, false, false, false, false, false] rfl rfl (zh HT_.out (by kernel_rfl)) (fun _ _ _ h => h) (Or.inl ⟨by rfl, ?_⟩) ?_ ?_
                           rotate_left
                           ·intro w'; go_simp; with_reducible rfl
                           rotate_left
                           ·simp only [Act.put, List.setIfInBounds_toArray, List.set_cons_zero, List.set_cons_succ, zd, zf]; rfl
                           refine zo (i := 9) (N := some 126) (v := ?_) (a' := ?_) #[true, true, true, true, true, true, true, true, true, true, false, false, false, false, false, false, false, false, false, false, false, false, false, false, false, false, false, false, false, false, false, false, false, false, false] rfl rfl (zh HT_.out (by kernel_rfl)) (fun _ _ _ h => h) (Or.inl ⟨by rfl, ?_⟩) ?_ ?_
                           rotate_left
                           ·intro w'; go_simp; with_reducible rfl
                           rotate_left
                           ·simp only [Act.put, List.setIfInBounds_toArray, List.set_cons_zero, List.set_cons_succ, zd, zf]; rfl
                           refine zo (i := 10) (N := some 127) (v := ?_) (a' := ?_) #[true, true, true, true, true, true, true, true, true, true, true, false, false, false, false, false, false, false, false, false, false, false, false, false, false, false, false, false, false, false, false, false, false, false, false] rfl rfl (zh HT_.out (by kernel_rfl)) (fun _ _ _ h => h) (Or.inl ⟨by rfl, ?_⟩) ?_ ?_
                           rotate_left
                           ·intro w'; go_simp; with_reducible rfl
                           rotate_left
                           ·simp only [Act.put, List.setIfInBounds_toArray, List.set_cons_zero, List.set_cons_succ, zd, zf]; rfl
                           refine zo (i := 11) (N := some 128) (v := ?_) (a' := ?_) #[true, true, true, true, true, true, true, true, true, true, true, true, false, false, false, false, false, false, false, false, false, false, false, false, false, false, false, false, false, false, false, false, false, false, false] rfl rfl (zh HT_.out (by kernel_rfl)) (fun _ _ _ h => h) (Or.inl ⟨by rfl, ?_⟩) ?_ ?_
                           rotate_left
                           ·intro w'; go_simp; with_reducible rfl
                           rotate_left
                           ·simp only [Act.put, List.setIfInBounds_toArray, List.set_cons_zero, List.set_cons_succ, zd, zf]; rfl
                           refine zo (i := 12) (N := some 129) (v := ?_) (a' := ?_) #[true, true, true, true, true, true, true, true, true, true, true, true, true, false, false, false, false, false, false, false, false, false, false, false, false, false, false, false, false, false, false, false, false, false, false] rfl rfl (zh HT_.out (by kernel_rfl)) (fun _ _ _ h => h) (Or.inl ⟨by rfl, ?_⟩) ?_ ?_
                           rotate_left
                           ·intro w'; go_simp; with_reducible rfl
                           rotate_left
                           ·simp only [Act.put, List.setIfInBounds_toArray, List.set_cons_zero, List.set_cons_succ, zd, zf]; rfl
                           refine zo (i := 14) (N := some 131) (v := ?_) (a' := ?_) #[true, true, true, true, true, true, true, true, true, true, true, true, true, false, true, false, false, false, false, false, false, false, false, false, false, false, false, false, false, false, false, false, false, false, false] rfl rfl (zh HT_.out (by kernel_rfl)) (fun _ _ _ h => h) (Or.inl ⟨by rfl, ?_⟩) ?_ ?_
                           rotate_left
                           ·intro w'; go_simp; with_reducible rfl
                           rotate_left
                           ·simp only [Act.put, List.setIfInBounds_toArray, List.set_cons_zero, List.set_cons_succ, zd, zf]; rfl
                           refine zo (i := 16) (N := some 133) (v := ?_) (a' := ?_) #[true, true, true, true, true, true, true, true, true, true, true, true, true, false, true, false, true, false, false, false, false, false, false, false, false, false, false, false, false, false, false, false, false, false, false] rfl rfl (zh HT_.out (by kernel_rfl)) (fun _ _ _ h => h) (Or.inl ⟨by rfl, ?_⟩) ?_ ?_
                           rotate_left
                           ·intro w'; go_simp; with_reducible rfl
                           rotate_left
                           ·simp only [Act.put, List.setIfInBounds_toArray, List.set_cons_zero, List.set_cons_succ, zd, zf]; rfl
                           refine zo (i := 17) (N := some 134) (v := ?_) (a' := ?_) #[true, true, true, true, true, true, true, true, true, true, true, true, true, false, true, false, true, true, false, false, false, false, false, false, false, false, false, false, false, false, false, false, false, false, false] rfl rfl (zh HT_.out (by kernel_rfl)) (fun _ _ _ h => h) (Or.inl ⟨by rfl, ?_⟩) ?_ ?_
                           rotate_left
                           ·intro w'; go_simp; with_reducible rfl
                           rotate_left
                           ·simp only [Act.put, List.setIfInBounds_toArray, List.set_cons_zero, List.set_cons_succ, zd, zf]; rfl
                           refine zo (i := 18) (N := some 135) (v := ?_) (a' := ?_) #[true, true, true, true, true, true, true, true, true, true, true, true, true, false, true, false, true, true, true, false, false, false, false, false, false, false, false, false, false, false, false, false, false, false, false] rfl rfl (zh HT_.out (by kernel_rfl)) (fun _ _ _ h => h) (Or.inl ⟨by rfl, ?_⟩) ?_ ?_
                           rotate_left
                           ·intro w'; go_simp; with_reducible rfl
                           rotate_left
                           ·simp only [Act.put, List.setIfInBounds_toArray, List.set_cons_zero, List.set_cons_succ, zd, zf]; rfl
                           refine zo (i := 19) (N := some 136) (v := ?_) (a' := ?_) #[true, true, true, true, true, true, true, true, true, true, true, true, true, false, true, false, true, true, true, true, false, false, false, false, false, false, false, false, false, false, false, false, false, false, false] rfl rfl (zh HT_.out (by kernel_rfl)) (fun _ _ _ h => h) (Or.inl ⟨by rfl, ?_⟩) ?_ ?_
                           rotate_left
                           ·intro w'; go_simp; with_reducible rfl
                           rotate_left
                           ·simp only [Act.put, List.setIfInBounds_toArray, List.set_cons_zero, List.set_cons_succ, zd, zf]; rfl
                           refine zo (i := 20) (N := some 137) (v := ?_) (a' := ?_) #[true, true, true, true, true, true, true, true, true, true, true, true, true, false, true, false, true, true, true, true, true, false, false, false, false, false, false, false, false, false, false, false, false, false, false] rfl rfl (zh HT_.out (by kernel_rfl)) (fun _ _ _ h => h) (Or.inl ⟨by rfl, ?_⟩) ?_ ?_
                           rotate_left
                           ·intro w'; go_simp; with_reducible rfl
                           rotate_left
                           ·simp only [Act.put, List.setIfInBounds_toArray, List.set_cons_zero, List.set_cons_succ, zd, zf]; rfl
                           refine zo (i := 21) (N := some 138) (v := ?_) (a' := ?_) #[true, true, true, true, true, true, true, true, true, true, true, true, true, false, true, false, true, true, true, true, true, true, false, false, false, false, false, false, false, false, false, false, false, false, false] rfl rfl (zh HT_.out (by kernel_rfl)) (fun _ _ _ h => h) (Or.inl ⟨by rfl, ?_⟩) ?_ ?_
                           rotate_left
                           ·intro w'; go_simp; with_reducible rfl
                           rotate_left
                           ·simp only [Act.put, List.setIfInBounds_toArray, List.set_cons_zero, List.set_cons_succ, zd, zf]; rfl
                           refine zo (i := 22) (N := some 139) (v := ?_) (a' := ?_) #[true, true, true, true, true, true, true, true, true, true, true, true, true, false, true, false, true, true, true, true, true, true, true, false, false, false, false, false, false, false, false, false, false, false, false] rfl rfl (zh HT_.out (by kernel_rfl)) (fun _ _ _ h => h) (Or.inl ⟨by rfl, ?_⟩) ?_ ?_
                           rotate_left
                           ·intro w'; go_simp; with_reducible rfl
                           rotate_left
                           ·simp only [Act.put, List.setIfInBounds_toArray, List.set_cons_zero, List.set_cons_succ, zd, zf]; rfl
                           refine zo (i := 24) (N := some 141) (v := ?_) (a' := ?_) #[true, true, true, true, true, true, true, true, true, true, true, true, true, false, true, false, true, true, true, true, true, true, true, false, true, false, false, false, false, false, false, false, false, false, false] rfl rfl (zh HT_.out (by kernel_rfl)) (fun _ _ _ h => h) (Or.inl ⟨by rfl, ?_⟩) ?_ ?_
                           rotate_left
                           ·intro w'; go_simp; with_reducible rfl
                           rotate_left
                           ·simp only [Act.put, List.setIfInBounds_toArray, List.set_cons_zero, List.set_cons_succ, zd, zf]; rfl
                           refine zo (i := 27) (N := some 144) (v := ?_) (a' := ?_) #[true, true, true, true, true, true, true, true, true, true, true, true, true, false, true, false, true, true, true, true, true, true, true, false, true, false, false, true, false, false, false, false, false, false, false] rfl rfl (zh HT_.out (by kernel_rfl)) (fun _ _ _ h => h) (Or.inl ⟨by rfl, ?_⟩) ?_ ?_
                           rotate_left
                           ·intro w'; go_simp; with_reducible rfl
                           rotate_left
                           ·simp only [Act.put, List.setIfInBounds_toArray, List.set_cons_zero, List.set_cons_succ, zd, zf]; rfl
                           refine zo (i := 29) (N := some 146) (v := ?_) (a' := ?_) #[true, true, true, true, true, true, true, true, true, true, true, true, true, false, true, false, true, true, true, true, true, true, true, false, true, false, false, true, false, true, false, false, false, false, false] rfl rfl (zh HT_.out (by kernel_rfl)) (fun _ _ _ h => h) (Or.inl ⟨by rfl, ?_⟩) ?_ ?_
                           rotate_left
                           ·intro w'; go_simp; with_reducible rfl
                           rotate_left
                           ·simp only [Act.put, List.setIfInBounds_toArray, List.set_cons_zero, List.set_cons_succ, zd, zf]; rfl
                           refine zo (i := 31) (N := some 148) (v := ?_) (a' := ?_) #[true, true, true, true, true, true, true, true, true, true, true, true, true, false, true, false, true, true, true, true, true, true, true, false, true, false, false, true, false, true, false, true, false, false, false] rfl rfl (zh HT_.out (by kernel_rfl)) (fun _ _ _ h => h) (Or.inl ⟨by rfl, ?_⟩) ?_ ?_
                           rotate_left
                           ·intro w'; go_simp; with_reducible rfl
                           rotate_left
                           ·simp only [Act.put, List.setIfInBounds_toArray, List.set_cons_zero, List.set_cons_succ, zd, zf]; rfl
                           refine qa (i := 13) (N := some 130) (v := ?_) (a' := ?_) #[true, true, true, true, true, true, true, true, true, true, true, true, true, true, true, false, true, true, true, true, true, true, true, false, true, false, false, true, false, true, false, true, false, false, false] rfl rfl (zA HT_.out HW_.out (by kernel_rfl)) (fun _ _ _ h => h) (Or.inl ⟨by rfl, ?_⟩) hHeld ?_ ?_
                           rotate_left
                           ·rintro w' ⟨s0, s1⟩; go_simp; with_reducible rfl
                           rotate_left
                           ·simp only [Act.put, List.setIfInBounds_toArray, List.set_cons_zero, List.set_cons_succ, zd, zf]; rfl
                           refine zo (i := 15) (N := some 132) (v := ?_) (a' := ?_) #[true, true, true, true, true, true, true, true, true, true, true, true, true, true, true, true, true, true, true, true, true, true, true, false, true, false, false, true, false, true, false, true, false, false, false] rfl rfl (zh HT_.out (by kernel_rfl)) (fun _ _ _ h => h) (Or.inl ⟨by rfl, ?_⟩) ?_ ?_
                           rotate_left
                           ·intro w'; go_simp; with_reducible rfl
                           rotate_left
                           ·simp only [Act.put, List.setIfInBounds_toArray, List.set_cons_zero, List.set_cons_succ, zd, zf]; rfl
                           refine qa (i := 23) (N := some 140) (v := ?_) (a' := ?_) #[true, true, true, true, true, true, true, true, true, true, true, true, true, true, true, true, true, true, true, true, true, true, true, true, true, false, false, true, false, true, false, true, false, false, false] rfl rfl (zA HT_.out HW_.out (by kernel_rfl)) (fun _ _ _ h => h) (Or.inl ⟨by rfl, ?_⟩) hHeld ?_ ?_
                           rotate_left
                           ·rintro w' ⟨s0, s1⟩; go_simp; with_reducible rfl
                           rotate_left
                           ·simp only [Act.put, List.setIfInBounds_toArray, List.set_cons_zero, List.set_cons_succ, zd, zf]; rfl
                           refine zo (i := 25) (N := some 142) (v := ?_) (a' := ?_) #[true, true, true, true, true, true, true, true, true, true, true, true, true, true, true, true, true, true, true, true, true, true, true, true, true, true, false, true, false, true, false, true, false, false, false] rfl rfl (zh HT_.out (by kernel_rfl)) (fun _ _ _ h => h) (Or.inl ⟨by rfl, ?_⟩) ?_ ?_
                           rotate_left
                           ·intro w'; go_simp; with_reducible rfl
                           rotate_left
                           ·simp only [Act.put, List.setIfInBounds_toArray, List.set_cons_zero, List.set_cons_succ, zd, zf]; rfl
                           refine zo (i := 26) (N := some 143) (v := ?_) (a' := ?_) #[true, true, true, true, true, true, true, true, true, true, true, true, true, true, true, true, true, true, true, true, true, true, true, true, true, true, true, true, false, true, false, true, false, false, false] rfl rfl (zh HT_.out (by kernel_rfl)) (fun _ _ _ h => h) (Or.inl ⟨by rfl, ?_⟩) ?_ ?_
                           rotate_left
                           ·intro w'; go_simp; with_reducible rfl
                           rotate_left
                           ·simp only [Act.put, List.setIfInBounds_toArray, List.set_cons_zero, List.set_cons_succ, zd, zf]; rfl
                           refine zo (i := 28) (N := some 145) (v := ?_) (a' := ?_) #[true, true, true, true, true, true, true, true, true, true, true, true, true, true, true, true, true, true, true, true, true, true, true, true, true, true, true, true, true, true, false, true, false, false, false] rfl rfl (zh HT_.out (by kernel_rfl)) (fun _ _ _ h => h) (Or.inl ⟨by rfl, ?_⟩) ?_ ?_
                           rotate_left
                           ·intro w'; go_simp; with_reducible rfl
                           rotate_left
                           ·simp only [Act.put, List.setIfInBounds_toArray, List.set_cons_zero, List.set_cons_succ, zd, zf]; rfl
                           refine zo (i := 30) (N := some 147) (v := ?_) (a' := ?_) #[true, true, true, true, true, true, true, true, true, true, true, true, true, true, true, true, true, true, true, true, true, true, true, true, true, true, true, true, true, true, true, true, false, false, false] rfl rfl (zh HT_.out (by kernel_rfl)) (fun _ _ _ h => h) (Or.inl ⟨by rfl, ?_⟩) ?_ ?_
                           rotate_left
                           ·intro w'; go_simp; with_reducible rfl
                           rotate_left
                           ·simp only [Act.put, List.setIfInBounds_toArray, List.set_cons_zero, List.set_cons_succ, zd, zf]; rfl
                           refine zo (i := 32) (N := some 149) (v := ?_) (a' := ?_) #[true, true, true, true, true, true, true, true, true, true, true, true, true, true, true, true, true, true, true, true, true, true, true, true, true, true, true, true, true, true, true, true, true, false, false] rfl rfl (zh HT_.out (by kernel_rfl)) (fun _ _ _ h => h) (Or.inl ⟨by rfl, ?_⟩) ?_ ?_
                           rotate_left
                           ·intro w'; go_simp; with_reducible rfl
                           rotate_left
                           ·simp only [Act.put, List.setIfInBounds_toArray, List.set_cons_zero, List.set_cons_succ, zd, zf]; rfl
                           refine zo (i := 33) (N := some 150) (v := ?_) (a' := ?_) #[true, true, true, true, true, true, true, true, true, true, true, true, true, true, true, true, true, true, true, true, true, true, true, true, true, true, true, true, true, true, true, true, true, true, false] rfl rfl (zh HT_.out (by kernel_rfl)) (fun _ _ _ h => h) (Or.inl ⟨by rfl, ?_⟩) ?_ ?_
                           rotate_left
                           ·intro w'; go_simp; with_reducible rfl
                           rotate_left
                           ·simp only [Act.put, List.setIfInBounds_toArray, List.set_cons_zero, List.set_cons_succ, zd, zf]; rfl
                           refine yT (i := 34) (N := none) #[true, true, true, true, true, true, true, true, true, true, true, true, true, true, true, true, true, true, true, true, true, true, true, true, true, true, true, true, true, true, true, true, true, true, true] rfl rfl (ji HT_.out (by kernel_rfl)) (by decide) (fun K hK => ?_)
                           refine yi (w1 := ?_) (by rfl) rfl ?_ ?_
                           rotate_left
                           ·go_simp
                            rfl
                           refine hK.out _ _ ?_
                           clear hK K
                           refine vM (jE HT_.out (by kernel_rfl)) ?_
                           try go_wp2
                           (try simp only [← hl11_5])
                           go_roundg k5
                           case measure => have := HK1.out; have := HJ12.out; have := HK3.out; have := HK4.out; have := HK5.out; omega
                           case rel => exact ⟨(y274), (wrap64 (x20_5 + 1)), (sqD), H', ⟨by have := HK1.out; have := HJ12.out; have := HK3.out; have := HK4.out; have := HK5.out; omega⟩, ⟨by (try simp only [hl11_5]); refine sqR ?_; exact HQ54.out⟩, ⟨by repeat (first | (with_reducible first | exact HB.out | apply zZ | apply zW | apply zL | refine zM ?_ GB52.out) | exact HB.out)⟩⟩
                         ·rw [if_neg c50] at H
                          exact absurd H (by simp)
                        ·rw [if_neg c49] at H
                         exact absurd H (by simp)
                       ·rw [if_neg c47] at H
                        exact absurd H (by simp)
                      ·rw [if_neg c46] at H
                       exact absurd H (by simp)
                     ·rw [if_neg c44] at H
                      have c44b0 : decide (x20_5 < a2) = false := decide_eq_false c44
                      clear c44
                      have H' := Aside0.mk H
                      clear H
                      go_wp2
                      (try simp only [← hl11_5])
                      go_roundg k5
                      case measure => have := HK1.out; have := HJ12.out; have := HK3.out; have := HK4.out; have := HK5.out; omega
                      case rel => exact ⟨(x11_5), (wrap64 (x17_4 + 1)), (sqD), H', ⟨by have := HK1.out; have := HJ12.out; have := HK3.out; have := HK4.out; have := HK5.out; omega⟩, ⟨by (try simp only [hl11_5]); refine sqR ?_; exact HO_11.out⟩, ⟨sqB⟩⟩
                  ·rw [if_neg c42] at H
                   exact absurd H (by simp)
                 ·rw [if_neg c41] at H
                  exact absurd H (by simp)
                ·rw [if_neg c39] at H
                 exact absurd H (by simp)
               ·rw [if_neg c38] at H
                exact absurd H (by simp)
              ·rw [if_neg c36] at H
               have c36b0 : decide (x17_4 < a1) = false := decide_eq_false c36
               clear c36
               have H' := Aside0.mk H
               clear H
               go_wp2
               go_roundg k4
               case measure => have := HK1.out; have := HJ12.out; have := HK3.out; have := HK4.out; omega
               case rel => exact ⟨(x11_4), (wrap64 (x12_1 + 1)), (wrap64 (x13_1 + 1)), (sqD), (sqD), H', ⟨by have := HK1.out; have := HJ12.out; have := HK3.out; have := HK4.out; omega⟩, ⟨sqR HO_11.out⟩, ⟨sqB⟩⟩
     ·replace c12 := Bool.eq_false_iff.mpr c12
      subst c12
      have H1 : (ze.l0 k1 a0 a1 a2 a4 x11_1 x12_1 (wrap64 (x13_1 + 1))) = some r := by rw [if_neg (show ¬ (false = true) by decide)] at H; exact H
      clear H
      have H := H1
      clear H1
      have H' := Aside0.mk H
      clear H
      go_wp2_with (first | ((with_reducible refine zt (f := 70) rfl ?_); refine zN (some 31) rfl rfl Try.func70 (by kernel_rfl) rfl #[.int .i64 a4, .int .i64 x13_1] rfl sqM ?_; (with_reducible refine (jn.calls a4 x13_1 false _ A11.out).mono ?_); rintro e w' ⟨rfl, ⟨nd, rfl⟩⟩; refine ⟨_, rfl, ?_⟩))
      go_roundg k1
      case measure => have := HK1.out; omega
      case rel => exact ⟨(x11_1), (x12_1), (wrap64 (x13_1 + 1)), (sqD), (sqD), H', ⟨by have := HK1.out; omega⟩, ⟨sqR HO_11.out⟩, ⟨sqB⟩⟩
    ·rw [if_neg c10] at H
     have c10b0 : decide (x13_1 < a2) = false := decide_eq_false c10
     clear c10
     obtain rfl := Option.some.inj H
     go_wp2
     go_ret
     exact ⟨sqE, sqB⟩
 ·rw [if_neg c6] at H
  exact absurd H (by simp)

def qp.f (k : Nat) (a0_0 : Int) (a0_1 : Int) (a0_2 : Int) (l0_3 : List Int) (a1 : Int) : Option (Int) := (zi.f k a0_0 a0_1 a0_2 l0_3).bind fun t276 => (if t276 = true then ((qM.f a0_2 a1).bind fun t277 => (if t277 = true then ((ze.f k a0_0 a0_1 a0_2 l0_3 a1).bind fun t278 => (some t278)) else (some (-1)))) else (some (-1)))
theorem qp.calls (k : Nat) (a0_0 : Int) (a0_1 : Int) (a0_2 : Int) (A0_3 : Option Addr) (c0_3 : Nat) (l0_3 : List Int) (a1 : Int) (r : Int) (w : World) (hr0_3 : Kd.C (Kd.int .i64) w A0_3 l0_3.length l0_3) (hc0_3 : l0_3.length ≤ c0_3) (h : qp.f k a0_0 a0_1 a0_2 l0_3 a1 = some r) :
  Calls Try.prog 30 #[.agg #[.int .i64 a0_0, .int .i64 a0_1, .int .i64 a0_2, .slice A0_3 l0_3.length c0_3], .int .i64 a1] w fun e w' => e = .returned (.int .i64 r) ∧ Below w.heap.size w w' := by
 have hu27 := Try.underlying27
 have HR0_3 := Aside0.mk hr0_3
 have HC0_3 := Aside0.mk hc0_3
 clear hr0_3 hc0_3
 have HB := Aside0.mk (Below.refl w.heap.size w)
 have H : ((zi.f k a0_0 a0_1 a0_2 l0_3).bind fun t276 => (if t276 = true then ((qM.f a0_2 a1).bind fun t277 => (if t277 = true then ((ze.f k a0_0 a0_1 a0_2 l0_3 a1).bind fun t278 => (some t278)) else (some (-1)))) else (some (-1)))) = some r := h
 clear h
 replace H := Option.bind_eq_some_iff.mp H
 obtain ⟨t276, A30, H⟩ := H
 replace H : (if t276 = true then ((qM.f a0_2 a1).bind fun t277 => (if t277 = true then ((ze.f k a0_0 a0_1 a0_2 l0_3 a1).bind fun t278 => (some t278)) else (some (-1)))) else (some (-1))) = some r := H
 have A3 := Aside0.mk A30
 clear A30
 by_cases c4 : t276 = true
 ·subst c4
  have H1 : ((qM.f a0_2 a1).bind fun t277 => (if t277 = true then ((ze.f k a0_0 a0_1 a0_2 l0_3 a1).bind fun t278 => (some t278)) else (some (-1)))) = some r := by rw [if_pos rfl] at H; exact H
  clear H
  have H := H1
  clear H1
  replace H := Option.bind_eq_some_iff.mp H
  obtain ⟨t277, A50, H⟩ := H
  replace H : (if t277 = true then ((ze.f k a0_0 a0_1 a0_2 l0_3 a1).bind fun t278 => (some t278)) else (some (-1))) = some r := H
  have A5 := Aside0.mk A50
  clear A50
  by_cases c6 : t277 = true
  ·subst c6
   have H1 : ((ze.f k a0_0 a0_1 a0_2 l0_3 a1).bind fun t278 => (some t278)) = some r := by rw [if_pos rfl] at H; exact H
   clear H
   have H := H1
   clear H1
   replace H := Option.bind_eq_some_iff.mp H
   obtain ⟨t278, A70, H⟩ := H
   replace H : (some t278) = some r := H
   have A7 := Aside0.mk A70
   clear A70
   obtain rfl := Option.some.inj H
   go_enter Try.func30, Try.ntmps30
   go_wp2_with (first | ((with_reducible refine zx (N := 2) rfl ?_); refine zy ?hg (N := 2) ?hd (cs := #[.int .i64 a0_0, .int .i64 a0_1, .int .i64 a0_2, .slice A0_3 l0_3.length c0_3]) (t := 27) ?hr ?_; (case hd => rfl); (case hg => rfl); (case hr => exact sqG); intro gb275 hg w8 hbox hb; have n0_ := Aside0.mk (zj sqB hb); have n1_ := Aside0.mk (hbox); have n2_ := Aside0.mk ((sqS hg : w.heap.size ≤ gb275)); have n3_ := Aside0.mk ((sqS hg : w.heap.size ≤ gb275)); clear HB; have HB := n0_; have BK275 := n1_; have GW275 := n2_; have GE275 := n3_; clear n0_ n1_ n2_ n3_; clear hb hbox hg; have hcz9_0 : w8.cell? ⟨gb275, 0, none⟩ = some (.int .i64 a0_0) := (zb BK275.out 0).trans rfl; have hcz9_1 : w8.cell? ⟨gb275, 1, none⟩ = some (.int .i64 a0_1) := (zb BK275.out 1).trans rfl; have hcz9_2 : w8.cell? ⟨gb275, 2, none⟩ = some (.int .i64 a0_2) := (zb BK275.out 2).trans rfl; have hcz9_3 : w8.cell? ⟨gb275, 3, none⟩ = some (.slice A0_3 l0_3.length c0_3) := (zb BK275.out 3).trans rfl; have hfz9_0 := za BK275.out 0; have hfz9_1 := za BK275.out 1; have hfz9_2 := za BK275.out 2; have hfz9_3 := za BK275.out 3) | ((with_reducible refine zt (f := 37) rfl ?_); refine zN (some 6) rfl rfl Try.func37 (by kernel_rfl) rfl #[.agg #[.int .i64 a0_0, .int .i64 a0_1, .int .i64 a0_2, .slice A0_3 l0_3.length c0_3]] rfl sqM ?_; (with_reducible refine (zi.calls k a0_0 a0_1 a0_2 _ _ l0_3 true _ ?side1 ?side2 A3.out).mono ?_); (case side1 => exact sqC (Kd.z7 HR0_3.out HB.out)); (case side2 => exact HC0_3.out); rintro e w10 ⟨rfl, hb⟩; refine ⟨_, rfl, ?_⟩; have n0_ := Aside0.mk (zq (g := gb275) (o := .cells #[.int .i64 a0_0, .int .i64 a0_1, .int .i64 a0_2, .slice A0_3 l0_3.length c0_3] 27 (0, 0)) (sqK BK275.out) hb); have n1_ := Aside0.mk (zj sqB hb); clear BK275; clear HB; have BK275 := n0_; have HB := n1_; clear n0_ n1_; (try clear hb); (try clear hb2); (try clear hk); (try clear hi); have hcz11_0 : w10.cell? ⟨gb275, 0, none⟩ = some (.int .i64 a0_0) := (zb BK275.out 0).trans rfl; have hcz11_1 : w10.cell? ⟨gb275, 1, none⟩ = some (.int .i64 a0_1) := (zb BK275.out 1).trans rfl; have hcz11_2 : w10.cell? ⟨gb275, 2, none⟩ = some (.int .i64 a0_2) := (zb BK275.out 2).trans rfl; have hcz11_3 : w10.cell? ⟨gb275, 3, none⟩ = some (.slice A0_3 l0_3.length c0_3) := (zb BK275.out 3).trans rfl; have hfz11_0 := za BK275.out 0; have hfz11_1 := za BK275.out 1; have hfz11_2 := za BK275.out 2; have hfz11_3 := za BK275.out 3) | (go_at_call 49; (try simp only [zd, zf]); (with_reducible refine (qM.calls a0_2 a1 true _ A5.out).mono ?_); rintro e w' ⟨rfl, ⟨nd, rfl⟩⟩) | ((with_reducible refine zt (f := 57) rfl ?_); refine zN (some 24) rfl rfl Try.func57 (by kernel_rfl) rfl #[.int .i64 a0_0, .int .i64 a0_1, .int .i64 a0_2, .slice A0_3 l0_3.length c0_3, .int .i64 a1] rfl sqM ?_; (with_reducible refine (ze.calls k a0_0 a0_1 a0_2 _ _ l0_3 a1 t278 _ ?side1 ?side2 A7.out).mono ?_); (case side1 => exact sqC (Kd.z7 HR0_3.out sqB)); (case side2 => exact HC0_3.out); rintro e w12 ⟨rfl, hb⟩; refine ⟨_, rfl, ?_⟩; have n0_ := Aside0.mk (zq (g := gb275) (o := .cells #[.int .i64 a0_0, .int .i64 a0_1, .int .i64 a0_2, .slice A0_3 l0_3.length c0_3] 27 (0, 0)) (sqK BK275.out) hb); have n1_ := Aside0.mk (zj sqB hb); clear BK275; clear HB; have BK275 := n0_; have HB := n1_; clear n0_ n1_; (try clear hb); (try clear hb2); (try clear hk); (try clear hi)))
   go_ret
   exact ⟨sqE, sqB⟩
  ·replace c6 := Bool.eq_false_iff.mpr c6
   subst c6
   have H1 : (some (-1)) = some r := by rw [if_neg (show ¬ (false = true) by decide)] at H; exact H
   clear H
   have H := H1
   clear H1
   obtain rfl := Option.some.inj H
   go_enter Try.func30, Try.ntmps30
   go_wp2_with (first | ((with_reducible refine zx (N := 2) rfl ?_); refine zy ?hg (N := 2) ?hd (cs := #[.int .i64 a0_0, .int .i64 a0_1, .int .i64 a0_2, .slice A0_3 l0_3.length c0_3]) (t := 27) ?hr ?_; (case hd => rfl); (case hg => rfl); (case hr => exact sqG); intro gb275 hg w13 hbox hb; have n0_ := Aside0.mk (zj sqB hb); have n1_ := Aside0.mk (hbox); have n2_ := Aside0.mk ((sqS hg : w.heap.size ≤ gb275)); have n3_ := Aside0.mk ((sqS hg : w.heap.size ≤ gb275)); clear HB; have HB := n0_; have BK275 := n1_; have GW275 := n2_; have GE275 := n3_; clear n0_ n1_ n2_ n3_; clear hb hbox hg; have hcz14_0 : w13.cell? ⟨gb275, 0, none⟩ = some (.int .i64 a0_0) := (zb BK275.out 0).trans rfl; have hcz14_1 : w13.cell? ⟨gb275, 1, none⟩ = some (.int .i64 a0_1) := (zb BK275.out 1).trans rfl; have hcz14_2 : w13.cell? ⟨gb275, 2, none⟩ = some (.int .i64 a0_2) := (zb BK275.out 2).trans rfl; have hcz14_3 : w13.cell? ⟨gb275, 3, none⟩ = some (.slice A0_3 l0_3.length c0_3) := (zb BK275.out 3).trans rfl; have hfz14_0 := za BK275.out 0; have hfz14_1 := za BK275.out 1; have hfz14_2 := za BK275.out 2; have hfz14_3 := za BK275.out 3) | ((with_reducible refine zt (f := 37) rfl ?_); refine zN (some 6) rfl rfl Try.func37 (by kernel_rfl) rfl #[.agg #[.int .i64 a0_0, .int .i64 a0_1, .int .i64 a0_2, .slice A0_3 l0_3.length c0_3]] rfl sqM ?_; (with_reducible refine (zi.calls k a0_0 a0_1 a0_2 _ _ l0_3 true _ ?side1 ?side2 A3.out).mono ?_); (case side1 => exact sqC (Kd.z7 HR0_3.out HB.out)); (case side2 => exact HC0_3.out); rintro e w15 ⟨rfl, hb⟩; refine ⟨_, rfl, ?_⟩; have n0_ := Aside0.mk (zq (g := gb275) (o := .cells #[.int .i64 a0_0, .int .i64 a0_1, .int .i64 a0_2, .slice A0_3 l0_3.length c0_3] 27 (0, 0)) (sqK BK275.out) hb); have n1_ := Aside0.mk (zj sqB hb); clear BK275; clear HB; have BK275 := n0_; have HB := n1_; clear n0_ n1_; (try clear hb); (try clear hb2); (try clear hk); (try clear hi); have hcz16_0 : w15.cell? ⟨gb275, 0, none⟩ = some (.int .i64 a0_0) := (zb BK275.out 0).trans rfl; have hcz16_1 : w15.cell? ⟨gb275, 1, none⟩ = some (.int .i64 a0_1) := (zb BK275.out 1).trans rfl; have hcz16_2 : w15.cell? ⟨gb275, 2, none⟩ = some (.int .i64 a0_2) := (zb BK275.out 2).trans rfl; have hcz16_3 : w15.cell? ⟨gb275, 3, none⟩ = some (.slice A0_3 l0_3.length c0_3) := (zb BK275.out 3).trans rfl; have hfz16_0 := za BK275.out 0; have hfz16_1 := za BK275.out 1; have hfz16_2 := za BK275.out 2; have hfz16_3 := za BK275.out 3) | (go_at_call 49; (try simp only [zd, zf]); (with_reducible refine (qM.calls a0_2 a1 false _ A5.out).mono ?_); rintro e w' ⟨rfl, ⟨nd, rfl⟩⟩))
   go_ret
   exact ⟨sqE, sqB⟩
 ·replace c4 := Bool.eq_false_iff.mpr c4
  subst c4
  have H1 : (some (-1)) = some r := by rw [if_neg (show ¬ (false = true) by decide)] at H; exact H
  clear H
  have H := H1
  clear H1
  obtain rfl := Option.some.inj H
  go_enter Try.func30, Try.ntmps30
  go_wp2_with (first | ((with_reducible refine zx (N := 2) rfl ?_); refine zy ?hg (N := 2) ?hd (cs := #[.int .i64 a0_0, .int .i64 a0_1, .int .i64 a0_2, .slice A0_3 l0_3.length c0_3]) (t := 27) ?hr ?_; (case hd => rfl); (case hg => rfl); (case hr => exact sqG); intro gb275 hg w17 hbox hb; have n0_ := Aside0.mk (zj sqB hb); have n1_ := Aside0.mk (hbox); have n2_ := Aside0.mk ((sqS hg : w.heap.size ≤ gb275)); have n3_ := Aside0.mk ((sqS hg : w.heap.size ≤ gb275)); clear HB; have HB := n0_; have BK275 := n1_; have GW275 := n2_; have GE275 := n3_; clear n0_ n1_ n2_ n3_; clear hb hbox hg; have hcz18_0 : w17.cell? ⟨gb275, 0, none⟩ = some (.int .i64 a0_0) := (zb BK275.out 0).trans rfl; have hcz18_1 : w17.cell? ⟨gb275, 1, none⟩ = some (.int .i64 a0_1) := (zb BK275.out 1).trans rfl; have hcz18_2 : w17.cell? ⟨gb275, 2, none⟩ = some (.int .i64 a0_2) := (zb BK275.out 2).trans rfl; have hcz18_3 : w17.cell? ⟨gb275, 3, none⟩ = some (.slice A0_3 l0_3.length c0_3) := (zb BK275.out 3).trans rfl; have hfz18_0 := za BK275.out 0; have hfz18_1 := za BK275.out 1; have hfz18_2 := za BK275.out 2; have hfz18_3 := za BK275.out 3) | ((with_reducible refine zt (f := 37) rfl ?_); refine zN (some 6) rfl rfl Try.func37 (by kernel_rfl) rfl #[.agg #[.int .i64 a0_0, .int .i64 a0_1, .int .i64 a0_2, .slice A0_3 l0_3.length c0_3]] rfl sqM ?_; (with_reducible refine (zi.calls k a0_0 a0_1 a0_2 _ _ l0_3 false _ ?side1 ?side2 A3.out).mono ?_); (case side1 => exact sqC (Kd.z7 HR0_3.out HB.out)); (case side2 => exact HC0_3.out); rintro e w19 ⟨rfl, hb⟩; refine ⟨_, rfl, ?_⟩; have n0_ := Aside0.mk (zq (g := gb275) (o := .cells #[.int .i64 a0_0, .int .i64 a0_1, .int .i64 a0_2, .slice A0_3 l0_3.length c0_3] 27 (0, 0)) (sqK BK275.out) hb); have n1_ := Aside0.mk (zj sqB hb); clear BK275; clear HB; have BK275 := n0_; have HB := n1_; clear n0_ n1_; (try clear hb); (try clear hb2); (try clear hk); (try clear hi)))
  go_ret
  exact ⟨sqE, sqB⟩

def qX.f (a0 : Int) (a1 : Int) : Option (Bool) := (zJ.f a0).bind fun t279 => (if t279 = true then (if a1 ≥ 0 then (if 0 ≤ a0 then (some (decide (a1 < (shl .i64 1 a0)))) else (none)) else (some false)) else (some false))
theorem qX.calls (a0 : Int) (a1 : Int) (r : Bool) (w : World) (h : qX.f a0 a1 = some r) :
  Calls Try.prog 51 #[.int .i64 a0, .int .i64 a1] w fun e w' => e = .returned (.bool r) ∧ zn w w' := by
 have H : ((zJ.f a0).bind fun t279 => (if t279 = true then (if a1 ≥ 0 then (if 0 ≤ a0 then (some (decide (a1 < (shl .i64 1 a0)))) else (none)) else (some false)) else (some false))) = some r := h
 clear h
 replace H := Option.bind_eq_some_iff.mp H
 obtain ⟨t279, A30, H⟩ := H
 replace H : (if t279 = true then (if a1 ≥ 0 then (if 0 ≤ a0 then (some (decide (a1 < (shl .i64 1 a0)))) else (none)) else (some false)) else (some false)) = some r := H
 have A3 := Aside0.mk A30
 clear A30
 by_cases c4 : t279 = true
 ·subst c4
  have H1 : (if a1 ≥ 0 then (if 0 ≤ a0 then (some (decide (a1 < (shl .i64 1 a0)))) else (none)) else (some false)) = some r := by rw [if_pos rfl] at H; exact H
  clear H
  have H := H1
  clear H1
  by_cases c5 : a1 ≥ 0
  ·rw [if_pos c5] at H
   have c5b0 : decide (0 ≤ a1) = true := decide_eq_true c5
   clear c5
   by_cases c6 : 0 ≤ a0
   ·rw [if_pos c6] at H
    have c6b0 := eq_true c6
    have c6b1 : decide (0 ≤ a0) = true := decide_eq_true c6
    clear c6
    obtain ⟨ji7, hji7⟩ : ∃ j_ : Int, (shl .i64 1 a0) = j_ := ⟨_, rfl⟩
    replace H : (some (decide (a1 < (ji7)))) = some r := by first | (rw [hji7] at H; exact H) | (simp only [hji7] at H ⊢; exact H)
    (try rw [hji7] at A3)
    have hji7_ : (IntKind.i64.wrap (1 * 2 ^ min a0.toNat 64)) = ji7 := hji7
    have hji7z : a0 ≤ 64 → (IntKind.i64.wrap (1 * 2 ^ a0.toNat)) = ji7 := Z1 hji7
    have hji7u : (IntKind.i64.wrap (2 ^ min a0.toNat 64)) = ji7 := by have h_ := hji7_; rw [Int.one_mul] at h_; exact h_
    have hji7v : a0 ≤ 64 → (IntKind.i64.wrap (2 ^ a0.toNat)) = ji7 := fun hle_ => by have h_ := hji7z hle_; rw [Int.one_mul] at h_; exact h_
    have hji7y : (wrap64 (1 * 2 ^ min a0.toNat 64)) = ji7 := (zd _).symm.trans hji7_
    have hji7x : a0 ≤ 64 → (wrap64 (1 * 2 ^ a0.toNat)) = ji7 := fun h_ => (zd _).symm.trans (hji7z h_)
    obtain rfl := Option.some.inj H
    go_enter Try.func51, Try.ntmps51
    go_wp2_with (first | ((with_reducible refine zt (f := 68) rfl ?_); refine zN (some 6) rfl rfl Try.func68 (by kernel_rfl) rfl #[.int .i64 a0] rfl sqM ?_; (with_reducible refine (zJ.calls a0 true _ A3.out).mono ?_); rintro e w' ⟨rfl, ⟨nd, rfl⟩⟩; refine ⟨_, rfl, ?_⟩))
    go_ret
    exact ⟨by first | rfl | (simp; done) | (simp only [← hji7] <;> (first | rfl | simp)) | (simp [*]; done), by repeat (first | exact zn.refl _ | apply zn.step)⟩
   ·rw [if_neg c6] at H
    exact absurd H (by simp)
  ·rw [if_neg c5] at H
   have c5b0 : decide (0 ≤ a1) = false := decide_eq_false c5
   clear c5
   obtain rfl := Option.some.inj H
   go_enter Try.func51, Try.ntmps51
   go_wp2_with (first | ((with_reducible refine zt (f := 68) rfl ?_); refine zN (some 6) rfl rfl Try.func68 (by kernel_rfl) rfl #[.int .i64 a0] rfl sqM ?_; (with_reducible refine (zJ.calls a0 true _ A3.out).mono ?_); rintro e w' ⟨rfl, ⟨nd, rfl⟩⟩; refine ⟨_, rfl, ?_⟩))
   go_ret
   exact ⟨sqD, by repeat (first | exact zn.refl _ | apply zn.step)⟩
 ·replace c4 := Bool.eq_false_iff.mpr c4
  subst c4
  have H1 : (some false) = some r := by rw [if_neg (show ¬ (false = true) by decide)] at H; exact H
  clear H
  have H := H1
  clear H1
  obtain rfl := Option.some.inj H
  go_enter Try.func51, Try.ntmps51
  go_wp2_with (first | ((with_reducible refine zt (f := 68) rfl ?_); refine zN (some 6) rfl rfl Try.func68 (by kernel_rfl) rfl #[.int .i64 a0] rfl sqM ?_; (with_reducible refine (zJ.calls a0 false _ A3.out).mono ?_); rintro e w' ⟨rfl, ⟨nd, rfl⟩⟩; refine ⟨_, rfl, ?_⟩))
  go_ret
  exact ⟨sqD, by repeat (first | exact zn.refl _ | apply zn.step)⟩

def qL.f (a0 : Int) : Option (Bool) := if a0 ≥ 0 then (some (decide (a0 < 256))) else (some false)
theorem qL.calls (a0 : Int) (r : Bool) (w : World) (h : qL.f a0 = some r) :
  Calls Try.prog 76 #[.int .i64 a0] w fun e w' => e = .returned (.bool r) ∧ zn w w' := by
 have H : (if a0 ≥ 0 then (some (decide (a0 < 256))) else (some false)) = some r := h
 clear h
 by_cases c2 : a0 ≥ 0
 ·rw [if_pos c2] at H
  have c2b0 : decide (0 ≤ a0) = true := decide_eq_true c2
  clear c2
  obtain rfl := Option.some.inj H
  go_enter Try.func76, Try.ntmps76
  go_wp2
  go_ret
  exact ⟨sqD, by repeat (first | exact zn.refl _ | apply zn.step)⟩
 ·rw [if_neg c2] at H
  have c2b0 : decide (0 ≤ a0) = false := decide_eq_false c2
  clear c2
  obtain rfl := Option.some.inj H
  go_enter Try.func76, Try.ntmps76
  go_wp2
  go_ret
  exact ⟨sqD, by repeat (first | exact zn.refl _ | apply zn.step)⟩

def qB.f (a0 : Int) (a1 : Int) : Option (Bool) := (qL.f a0).bind fun t282 => (if t282 = true then (if a1 ≥ 0 then (if a1 < 8 then (if 0 ≤ a1 then (some ((Go.bits .and .i64 (shr .i64 a0 a1) 1) == 1)) else (none)) else (some false)) else (some false)) else (some false))
theorem qB.calls (a0 : Int) (a1 : Int) (r : Bool) (w : World) (h : qB.f a0 a1 = some r) :
  Calls Try.prog 75 #[.int .i64 a0, .int .i64 a1] w fun e w' => e = .returned (.bool r) ∧ zn w w' := by
 have H : ((qL.f a0).bind fun t282 => (if t282 = true then (if a1 ≥ 0 then (if a1 < 8 then (if 0 ≤ a1 then (some ((Go.bits .and .i64 (shr .i64 a0 a1) 1) == 1)) else (none)) else (some false)) else (some false)) else (some false))) = some r := h
 clear h
 replace H := Option.bind_eq_some_iff.mp H
 obtain ⟨t282, A30, H⟩ := H
 replace H : (if t282 = true then (if a1 ≥ 0 then (if a1 < 8 then (if 0 ≤ a1 then (some ((Go.bits .and .i64 (shr .i64 a0 a1) 1) == 1)) else (none)) else (some false)) else (some false)) else (some false)) = some r := H
 have A3 := Aside0.mk A30
 clear A30
 by_cases c4 : t282 = true
 ·subst c4
  have H1 : (if a1 ≥ 0 then (if a1 < 8 then (if 0 ≤ a1 then (some ((Go.bits .and .i64 (shr .i64 a0 a1) 1) == 1)) else (none)) else (some false)) else (some false)) = some r := by rw [if_pos rfl] at H; exact H
  clear H
  have H := H1
  clear H1
  by_cases c5 : a1 ≥ 0
  ·rw [if_pos c5] at H
   have c5b0 : decide (0 ≤ a1) = true := decide_eq_true c5
   clear c5
   by_cases c6 : a1 < 8
   ·rw [if_pos c6] at H
    have c6b0 : decide (a1 < 8) = true := decide_eq_true c6
    clear c6
    by_cases c7 : 0 ≤ a1
    ·rw [if_pos c7] at H
     have c7b0 := eq_true c7
     have c7b1 : decide (0 ≤ a1) = true := decide_eq_true c7
     clear c7
     obtain ⟨ji8, hji8⟩ : ∃ j_ : Int, (shr .i64 a0 a1) = j_ := ⟨_, rfl⟩
     replace H : (some ((Go.bits .and .i64 (ji8) 1) == 1)) = some r := by first | (rw [hji8] at H; exact H) | (simp only [hji8] at H ⊢; exact H)
     (try rw [hji8] at A3)
     have hji8_ : (a0 / 2 ^ min a1.toNat 64) = ji8 := hji8
     have hji8z : a1 ≤ 64 → (a0 / 2 ^ a1.toNat) = ji8 := Z4 hji8
     obtain rfl := Option.some.inj H
     go_enter Try.func75, Try.ntmps75
     go_wp2_with (first | ((with_reducible refine zt (f := 76) rfl ?_); refine zN (some 6) rfl rfl Try.func76 (by kernel_rfl) rfl #[.int .i64 a0] rfl sqM ?_; (with_reducible refine (qL.calls a0 true _ A3.out).mono ?_); rintro e w' ⟨rfl, ⟨nd, rfl⟩⟩; refine ⟨_, rfl, ?_⟩))
     go_ret
     exact ⟨by first | rfl | (simp; done) | (simp only [← hji8] <;> (first | rfl | simp)) | (simp [*]; done), by repeat (first | exact zn.refl _ | apply zn.step)⟩
    ·rw [if_neg c7] at H
     exact absurd H (by simp)
   ·rw [if_neg c6] at H
    have c6b0 : decide (a1 < 8) = false := decide_eq_false c6
    clear c6
    obtain rfl := Option.some.inj H
    go_enter Try.func75, Try.ntmps75
    go_wp2_with (first | ((with_reducible refine zt (f := 76) rfl ?_); refine zN (some 6) rfl rfl Try.func76 (by kernel_rfl) rfl #[.int .i64 a0] rfl sqM ?_; (with_reducible refine (qL.calls a0 true _ A3.out).mono ?_); rintro e w' ⟨rfl, ⟨nd, rfl⟩⟩; refine ⟨_, rfl, ?_⟩))
    go_ret
    exact ⟨sqD, by repeat (first | exact zn.refl _ | apply zn.step)⟩
  ·rw [if_neg c5] at H
   have c5b0 : decide (0 ≤ a1) = false := decide_eq_false c5
   clear c5
   obtain rfl := Option.some.inj H
   go_enter Try.func75, Try.ntmps75
   go_wp2_with (first | ((with_reducible refine zt (f := 76) rfl ?_); refine zN (some 6) rfl rfl Try.func76 (by kernel_rfl) rfl #[.int .i64 a0] rfl sqM ?_; (with_reducible refine (qL.calls a0 true _ A3.out).mono ?_); rintro e w' ⟨rfl, ⟨nd, rfl⟩⟩; refine ⟨_, rfl, ?_⟩))
   go_ret
   exact ⟨sqD, by repeat (first | exact zn.refl _ | apply zn.step)⟩
 ·replace c4 := Bool.eq_false_iff.mpr c4
  subst c4
  have H1 : (some false) = some r := by rw [if_neg (show ¬ (false = true) by decide)] at H; exact H
  clear H
  have H := H1
  clear H1
  obtain rfl := Option.some.inj H
  go_enter Try.func75, Try.ntmps75
  go_wp2_with (first | ((with_reducible refine zt (f := 76) rfl ?_); refine zN (some 6) rfl rfl Try.func76 (by kernel_rfl) rfl #[.int .i64 a0] rfl sqM ?_; (with_reducible refine (qL.calls a0 false _ A3.out).mono ?_); rintro e w' ⟨rfl, ⟨nd, rfl⟩⟩; refine ⟨_, rfl, ?_⟩))
  go_ret
  exact ⟨sqD, by repeat (first | exact zn.refl _ | apply zn.step)⟩

def zz.l0 : Nat → Int → List Int → Int → Option (List Int)
 | 0, _, _, _ => none
 | k + 1, x0, x3, x4 => if x4 < 8 then ((qB.f x0 x4).bind fun t286 => (if t286 = true then (if x3.length < 17592186044416 then (zz.l0 k x0 (x3 ++ [x4]) (wrap64 (x4 + 1))) else (none)) else (zz.l0 k x0 x3 (wrap64 (x4 + 1))))) else (some x3)
def zz.f (k : Nat) (a0 : Int) : Option (List Int) := zz.l0 k a0 (([] : List Int)) 0
theorem zz.calls (k : Nat) (a0 : Int) (r : List Int) (w : World) (h : zz.f k a0 = some r) :
  Calls Try.prog 71 #[.int .i64 a0] w fun e w' => ∃ v0_ : Value, e = .returned (v0_) ∧ Kd.R (Kd.int .i64) 3 w' w.heap.size (fun _ => True) v0_ r ∧ Below w.heap.size w w' := by
 have HB := Aside0.mk (Below.refl w.heap.size w)
 have H : (zz.l0 k a0 (([] : List Int)) 0) = some r := h
 clear h
 obtain ⟨y283, hy283⟩ : ∃ y_ : List Int, y_ = (([] : List Int)) := ⟨_, rfl⟩
 replace H : (zz.l0 k a0 y283 0) = some r := by first | (rw [hy283]; with_reducible exact H) | (have H2_ := (Option.bind_some _ _).symm.trans H; rw [hy283]; with_reducible exact H2_) | (have H2_ := (Option.bind_some _ _).symm.trans H; with_reducible exact H2_) | with_reducible exact H | (rw [hy283]; exact H) | exact H
 have Ny283 := Aside0.mk hy283
 clear hy283
 have H' := Aside0.mk H
 clear H
 go_enter Try.func71, Try.ntmps71
 go_wp2_with (first | ((with_reducible refine zx (N := 5) rfl ?_); refine Kd.y7 (Kd.int .i64) _ 3 ?hg (N := 5) ?hd (xs := ([] : List Int)) (inner := []) (ok := fun _ => True) (okp := fun _ => True) ?hr ?hp (fun _ hk => hk) trivial (Below.refl _ _) (Nat.le_refl _) (by simp) ?_; (case hd => rfl); (case hg => rfl); (case hr => exact sqG); (case hp => exact (qi.none _ _)); intro v284 w2 ho3 hb hg_ hnew_; clear hg_ hnew_; (first | rw [← Ny283.out] at ho3 | (simp only [Int.reduceToNat] at ho3; rw [← Ny283.out] at ho3)); have n0_ := Aside0.mk (Kd.qE ho3 (zI sqB)); have n1_ := Aside0.mk (zj sqB hb); clear HB; have HO285 := n0_; have HB := n1_; clear n0_ n1_; clear hb ho3))
 go_loopg [3, 4] k (fun kq v3 v4 w' => ∃ (x3_1 : List Int) (x4_1 : Int), v4 = .int .i64 x4_1 ∧ Aside0 (zz.l0 kq a0 x3_1 x4_1 = some r) ∧ Aside0 (kq ≤ k) ∧ Aside0 (Kd.R (Kd.int .i64) 3 w' w.heap.size (fun _ => True) v3 x3_1) ∧ Aside0 (Below w.heap.size w w'))
 case atStart => exact ⟨(y283), (0), (sqD), H', ⟨Nat.le_refl _⟩, ⟨sqR HO285.out⟩, ⟨sqB⟩⟩
 case round =>
  clear H'
  try clear p2
  obtain ⟨x3_1, x4_1, rfl, HA, HK1, HO_3, HB⟩ := hrel
  cases gk with
  | zero => exact absurd HA.out (by simp [zz.l0])
  | succ k1 =>
   have H := HA.out
   clear HA
   simp only [zz.l0] at H
   by_cases c4 : x4_1 < 8
   ·rw [if_pos c4] at H
    have c4b0 : decide (x4_1 < 8) = true := decide_eq_true c4
    clear c4
    replace H := Option.bind_eq_some_iff.mp H
    obtain ⟨t286, A50, H⟩ := H
    replace H : (if t286 = true then (if x3_1.length < 17592186044416 then (zz.l0 k1 a0 (x3_1 ++ [x4_1]) (wrap64 (x4_1 + 1))) else (none)) else (zz.l0 k1 a0 x3_1 (wrap64 (x4_1 + 1)))) = some r := H
    have A5 := Aside0.mk A50
    clear A50
    by_cases c6 : t286 = true
    ·subst c6
     have H1 : (if x3_1.length < 17592186044416 then (zz.l0 k1 a0 (x3_1 ++ [x4_1]) (wrap64 (x4_1 + 1))) else (none)) = some r := by rw [if_pos rfl] at H; exact H
     clear H
     have H := H1
     clear H1
     by_cases c7 : x3_1.length < 17592186044416
     ·rw [if_pos c7] at H
      have LMc7 := Aside0.mk c7
      clear c7
      obtain ⟨y287, hy287⟩ : ∃ y_ : List Int, y_ = (x3_1 ++ [x4_1]) := ⟨_, rfl⟩
      replace H : (zz.l0 k1 a0 y287 (wrap64 (x4_1 + 1))) = some r := by first | (rw [hy287]; with_reducible exact H) | (have H2_ := (Option.bind_some _ _).symm.trans H; rw [hy287]; with_reducible exact H2_) | (have H2_ := (Option.bind_some _ _).symm.trans H; with_reducible exact H2_) | with_reducible exact H | (rw [hy287]; exact H) | exact H
      have Ny287 := Aside0.mk hy287
      clear hy287
      have H' := Aside0.mk H
      clear H
      go_wp2_with (first | ((with_reducible refine zt (f := 75) rfl ?_); refine zN (some 12) rfl rfl Try.func75 (by kernel_rfl) rfl #[.int .i64 a0, .int .i64 x4_1] rfl sqM ?_; (with_reducible refine (qB.calls a0 x4_1 true _ A5.out).mono ?_); rintro e w' ⟨rfl, ⟨nd, rfl⟩⟩; refine ⟨_, rfl, ?_⟩) | ((with_reducible refine qW (b := .append) (xs := #[.tmp 13, .tmp 15]) rfl ?_); at_builtin; refine Kd.Zv (Kd.int .i64) (w0 := w) w.heap.size rfl (.tmp 13) (.tmp 15) 22 3 (.int .i64 0) 8 rfl Try.underlying22 vU rfl (by decide) (by omega) u3 x3_1 x4_1 [.int .i64 x4_1] (fun _ => True) (fun _ => False) rfl rfl ?aP (fun _ hk => hk.elim) ?aF ?aO ?aB ?aS ?aL ?_; (case aP => exact rfl); (case aB => exact sqB); (case aF => exact (fun _ _ => trivial)); (case aO => exact (sqR HO_3.out)); (case aS => exact (zI sqB)); (case aL => have := LMc7.out; omega); intro v288 w8 ho hb hg hat; rw [← Ny287.out] at ho; have n0_ := Aside0.mk (hb); have n1_ := Aside0.mk (ho); clear HB; clear HO_3; have HB := n0_; have HO289 := n1_; clear n0_ n1_; clear ho hb hg hat))
      go_roundg k1
      case measure => have := HK1.out; omega
      case rel => exact ⟨(y287), (wrap64 (x4_1 + 1)), (sqD), H', ⟨by have := HK1.out; omega⟩, ⟨sqR HO289.out⟩, ⟨sqB⟩⟩
     ·rw [if_neg c7] at H
      exact absurd H (by simp)
    ·replace c6 := Bool.eq_false_iff.mpr c6
     subst c6
     have H1 : (zz.l0 k1 a0 x3_1 (wrap64 (x4_1 + 1))) = some r := by rw [if_neg (show ¬ (false = true) by decide)] at H; exact H
     clear H
     have H := H1
     clear H1
     have H' := Aside0.mk H
     clear H
     go_wp2_with (first | ((with_reducible refine zt (f := 75) rfl ?_); refine zN (some 12) rfl rfl Try.func75 (by kernel_rfl) rfl #[.int .i64 a0, .int .i64 x4_1] rfl sqM ?_; (with_reducible refine (qB.calls a0 x4_1 false _ A5.out).mono ?_); rintro e w' ⟨rfl, ⟨nd, rfl⟩⟩; refine ⟨_, rfl, ?_⟩))
     go_roundg k1
     case measure => have := HK1.out; omega
     case rel => exact ⟨(x3_1), (wrap64 (x4_1 + 1)), (sqD), H', ⟨by have := HK1.out; omega⟩, ⟨sqR HO_3.out⟩, ⟨sqB⟩⟩
   ·rw [if_neg c4] at H
    have c4b0 : decide (x4_1 < 8) = false := decide_eq_false c4
    clear c4
    obtain rfl := Option.some.inj H
    go_wp2
    go_ret
    exact ⟨_, sqE, sqR HO_3.out, sqB⟩

mutual
def zr.l0 : Nat → List Int → Int → Int → Int → Int → List Int → Int → Int → Int → List Int → Option (Int × Int × Int × List Int)
 | 0, _, _, _, _, _, _, _, _, _, _ => none
 | k + 1, x5, x7, x291000, x291001, x291002, x291003, x296000, x296001, x296002, x296003 => if x7 < x291001 then (zr.l1 k x5 x7 x5 (x5.length : Int) 0 x291000 x291001 x291002 x291003 x296000 x296001 x296002 x296003) else (some (x296000, x296001, x296002, x296003))
def zr.l1 : Nat → List Int → Int → List Int → Int → Int → Int → Int → Int → List Int → Int → Int → Int → List Int → Option (Int × Int × Int × List Int)
 | 0, _, _, _, _, _, _, _, _, _, _, _, _, _ => none
 | k + 1, x5, x7, x25, x26, x27, x291000, x291001, x291002, x291003, x296000, x296001, x296002, x296003 => if x27 < x26 then (if 0 ≤ x27 then (if x27 < (x25.length : Int) then ((jd.f x291000 x291001 x291002 x291003 x7 (rd x25 x27)).bind fun t297 => (if x296003.length < 17592186044416 then (zr.l1 k x5 x7 x25 x26 (wrap64 (x27 + 1)) x291000 x291001 x291002 x291003 x296000 x296001 x296002 (x296003 ++ [t297])) else (none))) else (none)) else (none)) else (zr.l0 k x5 (wrap64 (x7 + 1)) x291000 x291001 x291002 x291003 x296000 x296001 x296002 x296003)
end
def zr.f (k : Nat) (a0_0 : Int) (a0_1 : Int) (a0_2 : Int) (l0_3 : List Int) (a1 : Int) : Option (Int × Int × Int × List Int) := (zz.f k a1).bind fun t292 => (zr.l0 k t292 0 a0_0 a0_1 a0_2 l0_3 a0_0 a0_1 (t292.length : Int) ([] : List Int))
def zr.T9 : Bool × List (List Nat × List Nat) := (true, [([], []), ([0], [0]), ([], []), ([], []), ([], []), ([2, 3, 4], [2, 3, 4]), ([5], [5]), ([1, 6, 5], [1, 6]), ([0, 1, 2, 3, 4, 5, 6, 7], []), ([8, 7, 7, 0, 1, 2, 3, 4, 5, 6, 7], [7, 8])])
def zr.B9 : List Nat := [0, 1, 0, 0, 0, 28, 60, 127, 255, 511]
theorem zr.tab9 : jo .any (opsOf Try.f59 9) = zr.T9 := by kernel_rfl
theorem zr.zau : q8 zr.T9.2 zr.B9 = true := by kernel_rfl
theorem zr.calls (k : Nat) (a0_0 : Int) (a0_1 : Int) (a0_2 : Int) (A0_3 : Option Addr) (c0_3 : Nat) (l0_3 : List Int) (a1 : Int) (r1 : Int) (r2 : Int) (r3 : Int) (r4 : List Int) (w : World) (hr0_3 : Kd.C (Kd.int .i64) w A0_3 l0_3.length l0_3) (hc0_3 : l0_3.length ≤ c0_3) (h : zr.f k a0_0 a0_1 a0_2 l0_3 a1 = some (r1, r2, r3, r4)) :
  Calls Try.prog 59 #[.agg #[.int .i64 a0_0, .int .i64 a0_1, .int .i64 a0_2, .slice A0_3 l0_3.length c0_3], .int .i64 a1] w fun e w' => ∃ v3_ : Value, e = .returned (.agg #[.int .i64 r1, .int .i64 r2, .int .i64 r3, v3_]) ∧ Kd.R (Kd.int .i64) 3 w' w.heap.size (fun _ => True) v3_ r4 ∧ Below w.heap.size w w' := by
 have hu27 := Try.underlying27
 have HR0_3 := Aside0.mk hr0_3
 have HC0_3 := Aside0.mk hc0_3
 clear hr0_3 hc0_3
 have HB := Aside0.mk (Below.refl w.heap.size w)
 have H : ((zz.f k a1).bind fun t292 => (zr.l0 k t292 0 a0_0 a0_1 a0_2 l0_3 a0_0 a0_1 (t292.length : Int) ([] : List Int))) = some (r1, r2, r3, r4) := h
 clear h
 replace H := Option.bind_eq_some_iff.mp H
 obtain ⟨t292, A30, H⟩ := H
 replace H : (zr.l0 k t292 0 a0_0 a0_1 a0_2 l0_3 a0_0 a0_1 (t292.length : Int) ([] : List Int)) = some (r1, r2, r3, r4) := H
 have A3 := Aside0.mk A30
 clear A30
 have H' := Aside0.mk H
 clear H
 go_enter Try.func59, Try.ntmps59
 go_wp2_with (first | ((with_reducible refine zx (N := 2) rfl ?_); refine zy ?hg (N := 2) ?hd (cs := #[.int .i64 a0_0, .int .i64 a0_1, .int .i64 a0_2, .slice A0_3 l0_3.length c0_3]) (t := 27) ?hr ?_; (case hd => rfl); (case hg => rfl); (case hr => exact sqG); intro gb290 hg w4 hbox hb; have n0_ := Aside0.mk (zj sqB hb); have n1_ := Aside0.mk (hbox); have n2_ := Aside0.mk ((sqS hg : w.heap.size ≤ gb290)); have n3_ := Aside0.mk ((sqS hg : w.heap.size ≤ gb290)); clear HB; have HB := n0_; have BK290 := n1_; have GW290 := n2_; have GE290 := n3_; clear n0_ n1_ n2_ n3_; clear hb hbox hg) | ((with_reducible refine zx (N := 4) rfl ?_); refine zy ?hg (N := 4) ?hd (cs := #[.int .i64 0, .int .i64 0, .int .i64 0, .slice none 0 0]) (t := 27) ?hr ?_; (case hd => rfl); (case hg => rfl); (case hr => exact sqG); intro gb291 hg w5 hbox hb; have n0_ := Aside0.mk (zq (g := gb290) (o := .cells #[.int .i64 a0_0, .int .i64 a0_1, .int .i64 a0_2, .slice A0_3 l0_3.length c0_3] 27 (0, 0)) (sqK BK290.out) hb); have n1_ := Aside0.mk (zj sqB hb); have n2_ := Aside0.mk (hbox); have n3_ := Aside0.mk ((sqS hg : w.heap.size ≤ gb291)); have n4_ := Aside0.mk ((sqS hg : w.heap.size ≤ gb291)); have n5_ := Aside0.mk ((by rw [hg]; exact Nat.ne_of_lt (zS (g := gb290) (o := .cells #[.int .i64 a0_0, .int .i64 a0_1, .int .i64 a0_2, .slice A0_3 l0_3.length c0_3] 27 (0, 0)) (sqK BK290.out)) : gb290 ≠ gb291)); have n6_ := Aside0.mk ((by rw [hg]; exact Nat.ne_of_gt (zS (g := gb290) (o := .cells #[.int .i64 a0_0, .int .i64 a0_1, .int .i64 a0_2, .slice A0_3 l0_3.length c0_3] 27 (0, 0)) (sqK BK290.out)) : gb291 ≠ gb290)); clear BK290; clear HB; have BK290 := n0_; have HB := n1_; have BK291 := n2_; have GW291 := n3_; have GE291 := n4_; have NB290_291 := n5_; have NB291_290 := n6_; clear n0_ n1_ n2_ n3_ n4_ n5_ n6_; clear hb hbox hg) | ((with_reducible refine zt (f := 71) rfl ?_); refine zN (some 11) rfl rfl Try.func71 (by kernel_rfl) rfl #[.int .i64 a1] rfl sqM ?_; (with_reducible refine (zz.calls k a1 t292 _ A3.out).mono ?_); rintro e w6 ⟨v293, rfl, ho0, hb⟩; refine ⟨_, rfl, ?_⟩; have n0_ := Aside0.mk (Kd.qE ho0 (zI sqB)); have n1_ := Aside0.mk (zq (g := gb290) (o := .cells #[.int .i64 a0_0, .int .i64 a0_1, .int .i64 a0_2, .slice A0_3 l0_3.length c0_3] 27 (0, 0)) (sqK BK290.out) hb); have n2_ := Aside0.mk (zq (g := gb291) (o := .cells #[.int .i64 0, .int .i64 0, .int .i64 0, .slice none 0 0] 27 (0, 0)) (sqK BK291.out) hb); have n3_ := Aside0.mk (zj sqB hb); clear BK290; clear BK291; clear HB; have HO294 := n0_; have BK290 := n1_; have BK291 := n2_; have HB := n3_; clear n0_ n1_ n2_ n3_; (try clear hb); (try clear hb2); (try clear hk); (try clear hi); (try clear ho0); have hnb7 := NB290_291.out; have hnc7 := NB291_290.out; have hcz8_0 : w6.cell? ⟨gb290, 0, none⟩ = some (.int .i64 a0_0) := (zb BK290.out 0).trans rfl; have hcz8_1 : w6.cell? ⟨gb290, 1, none⟩ = some (.int .i64 a0_1) := (zb BK290.out 1).trans rfl; have hcz8_2 : w6.cell? ⟨gb290, 2, none⟩ = some (.int .i64 a0_2) := (zb BK290.out 2).trans rfl; have hcz8_3 : w6.cell? ⟨gb290, 3, none⟩ = some (.slice A0_3 l0_3.length c0_3) := (zb BK290.out 3).trans rfl; have hfz8_0 := za BK290.out 0; have hfz8_1 := za BK290.out 1; have hfz8_2 := za BK290.out 2; have hfz8_3 := za BK290.out 3; obtain ⟨Ao9, co9, eo9⟩ := Kd.z1 HO294.out; subst eo9) | ((with_reducible refine zx (N := 6) rfl ?_); refine zy ?hg (N := 6) ?hd (cs := #[.int .i64 0, .int .i64 0, .int .i64 0, .slice none 0 0]) (t := 27) ?hr ?_; (case hd => rfl); (case hg => rfl); (case hr => exact sqG); intro gb295 hg w10 hbox hb; have n0_ := Aside0.mk (Kd.qo (sqR HO294.out) hb); have n1_ := Aside0.mk (zq (g := gb290) (o := .cells #[.int .i64 a0_0, .int .i64 a0_1, .int .i64 a0_2, .slice A0_3 l0_3.length c0_3] 27 (0, 0)) (sqK BK290.out) hb); have n2_ := Aside0.mk (zq (g := gb291) (o := .cells #[.int .i64 0, .int .i64 0, .int .i64 0, .slice none 0 0] 27 (0, 0)) (sqK BK291.out) hb); have n3_ := Aside0.mk (zj sqB hb); have n4_ := Aside0.mk (hbox); have n5_ := Aside0.mk ((sqS hg : w.heap.size ≤ gb295)); have n6_ := Aside0.mk ((sqS hg : w.heap.size ≤ gb295)); have n7_ := Aside0.mk ((by rw [hg]; exact Nat.ne_of_lt (zS (g := gb290) (o := .cells #[.int .i64 a0_0, .int .i64 a0_1, .int .i64 a0_2, .slice A0_3 l0_3.length c0_3] 27 (0, 0)) (sqK BK290.out)) : gb290 ≠ gb295)); have n8_ := Aside0.mk ((by rw [hg]; exact Nat.ne_of_gt (zS (g := gb290) (o := .cells #[.int .i64 a0_0, .int .i64 a0_1, .int .i64 a0_2, .slice A0_3 l0_3.length c0_3] 27 (0, 0)) (sqK BK290.out)) : gb295 ≠ gb290)); have n9_ := Aside0.mk ((by rw [hg]; exact Nat.ne_of_lt (zS (g := gb291) (o := .cells #[.int .i64 0, .int .i64 0, .int .i64 0, .slice none 0 0] 27 (0, 0)) (sqK BK291.out)) : gb291 ≠ gb295)); have n10_ := Aside0.mk ((by rw [hg]; exact Nat.ne_of_gt (zS (g := gb291) (o := .cells #[.int .i64 0, .int .i64 0, .int .i64 0, .slice none 0 0] 27 (0, 0)) (sqK BK291.out)) : gb295 ≠ gb291)); clear HO294; clear BK290; clear BK291; clear HB; have HO294 := n0_; have BK290 := n1_; have BK291 := n2_; have HB := n3_; have BK295 := n4_; have GW295 := n5_; have GE295 := n6_; have NB290_295 := n7_; have NB295_290 := n8_; have NB291_295 := n9_; have NB295_291 := n10_; clear n0_ n1_ n2_ n3_ n4_ n5_ n6_ n7_ n8_ n9_ n10_; clear hb hbox hg; have hnb11 := NB295_290.out; have hnc11 := NB290_295.out; have hnb12 := NB295_291.out; have hnc12 := NB291_295.out; have hcz13_0 : w10.cell? ⟨gb295, 0, none⟩ = some (.int .i64 0) := (zb BK295.out 0).trans rfl; have hcz13_1 : w10.cell? ⟨gb295, 1, none⟩ = some (.int .i64 0) := (zb BK295.out 1).trans rfl; have hcz13_2 : w10.cell? ⟨gb295, 2, none⟩ = some (.int .i64 0) := (zb BK295.out 2).trans rfl; have hcz13_3 : w10.cell? ⟨gb295, 3, none⟩ = some (.slice none 0 0) := (zb BK295.out 3).trans rfl; have hfz13_0 := za BK295.out 0; have hfz13_1 := za BK295.out 1; have hfz13_2 := za BK295.out 2; have hfz13_3 := za BK295.out 3))
 go_loopg [7] k (fun kq v7 w' => ∃ (x7_1 : Int) (x296003_1 : List Int) (u296003 : Value), v7 = .int .i64 x7_1 ∧ Aside0 (zr.l0 kq t292 x7_1 a0_0 a0_1 a0_2 l0_3 a0_0 a0_1 (t292.length : Int) x296003_1 = some (r1, r2, r3, r4)) ∧ Aside0 (kq ≤ k) ∧ Aside0 (Kd.R (Kd.int .i64) 3 w' w.heap.size (fun k_ => some k_ ≠ (u296003 : Value).ownBlock) (.slice Ao9 t292.length co9) t292) ∧ Aside0 (Kd.R (Kd.int .i64) 3 w' w.heap.size (fun k_ => some k_ ≠ ((.slice Ao9 t292.length co9) : Value).ownBlock) u296003 x296003_1) ∧ Aside0 (w'.heap[gb290]? = some (.cells #[.int .i64 a0_0, .int .i64 a0_1, .int .i64 a0_2, (.slice A0_3 l0_3.length c0_3)] 27 (0, 0))) ∧ Aside0 (w'.heap[gb291]? = some (.cells #[.int .i64 0, .int .i64 0, .int .i64 0, (.slice none 0 0)] 27 (0, 0))) ∧ Aside0 (w'.heap[gb295]? = some (.cells #[.int .i64 a0_0, .int .i64 a0_1, .int .i64 (t292.length : Int), u296003] 27 (0, 0))) ∧ Aside0 (Below w.heap.size w w'))
 case atStart => exact ⟨(0), (([] : List Int)), (.slice none 0 0), (sqD), H', ⟨Nat.le_refl _⟩, ⟨by refine sqR ?_; exact Kd.zO (Kd.zP (p := ⟨gb295, 3, none⟩) (Kd.zP (p := ⟨gb295, 2, none⟩) (Kd.zP (p := ⟨gb295, 1, none⟩) (Kd.zP (p := ⟨gb295, 0, none⟩) (Kd.qt HO294.out BK295.out (by decide)) (fun _ hk => hk.2) (.int .i64 a0_0)) (fun _ hk => hk.2) (.int .i64 a0_1)) (fun _ hk => hk.2) (.int .i64 (t292.length : Int))) (fun _ hk => hk.2) (.slice none 0 0)) (fun _ hk => (by simp [Value.ownBlock]))⟩, ⟨sqN⟩, ⟨by refine sqK ?_; refine zB ?_ NB290_295.out _; refine sqK ?_; refine zB ?_ NB290_295.out _; refine sqK ?_; refine zB ?_ NB290_295.out _; refine sqK ?_; refine zB ?_ NB290_295.out _; refine sqK ?_; exact BK290.out⟩, ⟨by refine sqK ?_; refine zB ?_ NB291_295.out _; refine sqK ?_; refine zB ?_ NB291_295.out _; refine sqK ?_; refine zB ?_ NB291_295.out _; refine sqK ?_; refine zB ?_ NB291_295.out _; refine sqK ?_; exact BK291.out⟩, ⟨by refine sqK ?_; refine zG (cs := #[.int .i64 a0_0, .int .i64 a0_1, .int .i64 (t292.length : Int), .slice none 0 0]) ?_ 3 _ rfl; refine sqK ?_; refine zG (cs := #[.int .i64 a0_0, .int .i64 a0_1, .int .i64 0, .slice none 0 0]) ?_ 2 _ rfl; refine sqK ?_; refine zG (cs := #[.int .i64 a0_0, .int .i64 0, .int .i64 0, .slice none 0 0]) ?_ 1 _ rfl; refine sqK ?_; refine zG (cs := #[.int .i64 0, .int .i64 0, .int .i64 0, .slice none 0 0]) ?_ 0 _ rfl; refine sqK ?_; exact BK295.out⟩, ⟨sqB⟩⟩
 case round =>
  clear H'
  try clear c1
  try clear p2
  try clear c5
  try clear c7
  try clear c11
  try clear c12
  try clear hcz13_0
  try clear hcz13_1
  try clear hcz13_2
  try clear hcz13_3
  try clear hcz8_0
  try clear hcz8_1
  try clear hcz8_2
  try clear hcz8_3
  try clear hfz13_0
  try clear hfz13_1
  try clear hfz13_2
  try clear hfz13_3
  try clear hfz8_0
  try clear hfz8_1
  try clear hfz8_2
  try clear hfz8_3
  obtain ⟨x7_1, x296003_1, u296003, rfl, HA, HK1, HO_5, HO_296003, BK290, BK291, BK295, HB⟩ := hrel
  cases gk with
  | zero => exact absurd HA.out (by simp [zr.l0])
  | succ k1 =>
   have H := HA.out
   clear HA
   simp only [zr.l0] at H
   by_cases c14 : x7_1 < a0_1
   ·rw [if_pos c14] at H
    have c14b0 : decide (x7_1 < a0_1) = true := decide_eq_true c14
    clear c14
    have H' := Aside0.mk H
    clear H
    have hnb15 := NB290_291.out
    have hnc15 := NB291_290.out
    have hnb16 := NB290_295.out
    have hnc16 := NB295_290.out
    have hcz17_0 : wr.cell? ⟨gb290, 0, none⟩ = some (.int .i64 a0_0) := (zb BK290.out 0).trans rfl
    have hcz17_1 : wr.cell? ⟨gb290, 1, none⟩ = some (.int .i64 a0_1) := (zb BK290.out 1).trans rfl
    have hcz17_2 : wr.cell? ⟨gb290, 2, none⟩ = some (.int .i64 a0_2) := (zb BK290.out 2).trans rfl
    have hcz17_3 : wr.cell? ⟨gb290, 3, none⟩ = some (.slice A0_3 l0_3.length c0_3) := (zb BK290.out 3).trans rfl
    have hfz17_0 := za BK290.out 0; have hfz17_1 := za BK290.out 1; have hfz17_2 := za BK290.out 2; have hfz17_3 := za BK290.out 3
    go_wp2
    go_loopg [27] k1 (fun kq v27 w' => ∃ (x27_2 : Int) (x296003_2 : List Int) (u296003 : Value), v27 = .int .i64 x27_2 ∧ Aside0 (zr.l1 kq t292 x7_1 t292 (t292.length : Int) x27_2 a0_0 a0_1 a0_2 l0_3 a0_0 a0_1 (t292.length : Int) x296003_2 = some (r1, r2, r3, r4)) ∧ Aside0 (kq ≤ k1) ∧ Aside0 (Kd.R (Kd.int .i64) 3 w' w.heap.size (fun k_ => some k_ ≠ (u296003 : Value).ownBlock) (.slice Ao9 t292.length co9) t292) ∧ Aside0 (Kd.R (Kd.int .i64) 3 w' w.heap.size (fun k_ => some k_ ≠ (u296003 : Value).ownBlock) (.slice Ao9 t292.length co9) t292) ∧ Aside0 (Kd.R (Kd.int .i64) 3 w' w.heap.size (fun k_ => some k_ ≠ ((.slice Ao9 t292.length co9) : Value).ownBlock ∧ some k_ ≠ ((.slice Ao9 t292.length co9) : Value).ownBlock) u296003 x296003_2) ∧ Aside0 (w'.heap[gb290]? = some (.cells #[.int .i64 a0_0, .int .i64 a0_1, .int .i64 a0_2, (.slice A0_3 l0_3.length c0_3)] 27 (0, 0))) ∧ Aside0 (w'.heap[gb291]? = some (.cells #[.int .i64 0, .int .i64 0, .int .i64 0, (.slice none 0 0)] 27 (0, 0))) ∧ Aside0 (w'.heap[gb295]? = some (.cells #[.int .i64 a0_0, .int .i64 a0_1, .int .i64 (t292.length : Int), u296003] 27 (0, 0))) ∧ Aside0 (Below w.heap.size w w'))
    case atStart => exact ⟨(0), (x296003_1), (u296003), (sqD), H', ⟨Nat.le_refl _⟩, ⟨sqR HO_5.out⟩, ⟨sqR HO_5.out⟩, ⟨by refine sqR ?_; exact Kd.zO HO_296003.out (fun _ hk => by first | exact ⟨hk, hk⟩ | (refine ⟨?_, ?_⟩ <;> intro e_ <;> simp only [e_, ne_eq, not_true_eq_false, and_false, false_and] at hk))⟩, ⟨sqK BK290.out⟩, ⟨sqK BK291.out⟩, ⟨sqK BK295.out⟩, ⟨sqB⟩⟩
    case round =>
     clear H'
     try clear c1
     try clear p2
     try clear c5
     try clear c7
     try clear c11
     try clear c12
     try clear c14
     try clear c14b0
     try clear c15
     try clear c16
     try clear hcz13_0
     try clear hcz13_1
     try clear hcz13_2
     try clear hcz13_3
     try clear hcz17_0
     try clear hcz17_1
     try clear hcz17_2
     try clear hcz17_3
     try clear hcz8_0
     try clear hcz8_1
     try clear hcz8_2
     try clear hcz8_3
     try clear hfz13_0
     try clear hfz13_1
     try clear hfz13_2
     try clear hfz13_3
     try clear hfz17_0
     try clear hfz17_1
     try clear hfz17_2
     try clear hfz17_3
     try clear hfz8_0
     try clear hfz8_1
     try clear hfz8_2
     try clear hfz8_3
     try clear p2
     obtain ⟨x27_2, x296003_2, u296003, rfl, HA, HK2, HO_5, HO_25, HO_296003, BK290, BK291, BK295, HB⟩ := hrel
     cases gk with
     | zero => exact absurd HA.out (by simp [zr.l1])
     | succ k2 =>
      have H := HA.out
      clear HA
      simp only [zr.l1] at H
      by_cases c18 : x27_2 < (t292.length : Int)
      ·rw [if_pos c18] at H
       have c18b0 : decide (x27_2 < (t292.length : Int)) = true := decide_eq_true c18
       clear c18
       by_cases c19 : 0 ≤ x27_2
       ·rw [if_pos c19] at H
        have c19b0 : decide (0 ≤ x27_2) = true := decide_eq_true c19
        clear c19
        by_cases c20 : x27_2 < (t292.length : Int)
        ·rw [if_pos c20] at H
         have c20b0 : decide (x27_2 < (t292.length : Int)) = true := decide_eq_true c20
         clear c20
         replace H := Option.bind_eq_some_iff.mp H
         obtain ⟨t297, A210, H⟩ := H
         replace H : (if x296003_2.length < 17592186044416 then (zr.l1 k2 t292 x7_1 t292 (t292.length : Int) (wrap64 (x27_2 + 1)) a0_0 a0_1 a0_2 l0_3 a0_0 a0_1 (t292.length : Int) (x296003_2 ++ [t297])) else (none)) = some (r1, r2, r3, r4) := H
         have A21 := Aside0.mk A210
         clear A210
         by_cases c22 : x296003_2.length < 17592186044416
         ·rw [if_pos c22] at H
          have LMc22 := Aside0.mk c22
          clear c22
          obtain ⟨y298, hy298⟩ : ∃ y_ : List Int, y_ = (x296003_2 ++ [t297]) := ⟨_, rfl⟩
          replace H : (zr.l1 k2 t292 x7_1 t292 (t292.length : Int) (wrap64 (x27_2 + 1)) a0_0 a0_1 a0_2 l0_3 a0_0 a0_1 (t292.length : Int) y298) = some (r1, r2, r3, r4) := by first | (rw [hy298]; with_reducible exact H) | (have H2_ := (Option.bind_some _ _).symm.trans H; rw [hy298]; with_reducible exact H2_) | (have H2_ := (Option.bind_some _ _).symm.trans H; with_reducible exact H2_) | with_reducible exact H | (rw [hy298]; exact H) | exact H
          have Ny298 := Aside0.mk hy298
          clear hy298
          have H' := Aside0.mk H
          clear H
          have p296 : 0 ≤ (x27_2 : Int) := of_decide_eq_true sqA
          have q296 : x27_2 < (t292.length : Int) := of_decide_eq_true sqA
          obtain ⟨ad296, e296, hx296_0⟩ := Kd.qd (Kd.zC HO_25.out).2.2 x27_2 p296 q296
          cases e296
          replace p296 := eq_true p296
          replace q296 := eq_true q296
          try go_wp2
          have n0_ := Aside0.mk (Kd.jt HO_5.out)
          have n1_ := Aside0.mk (Kd.jt HO_25.out)
          have n2_ := Aside0.mk (Kd.jt HO_296003.out)
          have n3_ := Aside0.mk (qn BK290.out)
          have n4_ := Aside0.mk (qn BK291.out)
          have n5_ := Aside0.mk (qn BK295.out)
          have n6_ := Aside0.mk (zL HB.out)
          clear HO_5 HO_25 HO_296003 BK290 BK291 BK295 HB; have HO_5 := n0_; have HO_25 := n1_; have HO_296003 := n2_; have BK290 := n3_; have BK291 := n4_; have BK295 := n5_; have HB := n6_; clear n0_ n1_ n2_ n3_ n4_ n5_ n6_
          refine jU (n := 10) (S := fun w' => w'.cell? ⟨gb295, 0, none⟩ = some (.int .i64 a0_0) ∧ w'.cell? ⟨gb295, 1, none⟩ = some (.int .i64 a0_1) ∧ w'.cell? ⟨gb295, 2, none⟩ = some (.int .i64 (t292.length : Int)) ∧ w'.cell? ⟨gb295, 3, none⟩ = some (u296003) ∧ w'.cell? ⟨gb290, 0, none⟩ = some (.int .i64 a0_0) ∧ w'.cell? ⟨gb290, 1, none⟩ = some (.int .i64 a0_1) ∧ w'.cell? ⟨gb290, 2, none⟩ = some (.int .i64 a0_2) ∧ w'.cell? ⟨gb290, 3, none⟩ = some (.slice A0_3 l0_3.length c0_3)) (ds := [9]) #[false, false, false, false, false, false, false, false, false, false] (by kernel_rfl) rfl rfl ⟨(zb BK295.out 0).trans rfl, (zb BK295.out 1).trans rfl, (zb BK295.out 2).trans rfl, (zb BK295.out 3).trans rfl, (zb BK290.out 0).trans rfl, (zb BK290.out 1).trans rfl, (zb BK290.out 2).trans rfl, (zb BK290.out 3).trans rfl⟩ (fun hHeld => ?_); refine qQ zr.tab9 zr.zau (fun HT_ HW_ => ?_)
          generalize wr.drew = w23 at HO_5 HO_25 HO_296003 BK290 BK291 BK295 HB hHeld ⊢
          refine zo (i := 0) (N := some 31) (v := ?_) (a' := ?_) #[true, false, false, false, false, false, false, false, false, false] rfl rfl (zh HT_.out (by kernel_rfl)) (fun _ _ _ h => h) (Or.inl ⟨by rfl, ?_⟩) ?_ ?_
          rotate_left
          ·intro w'; go_simp; with_reducible rfl
          rotate_left
          ·simp only [Act.put, List.setIfInBounds_toArray, List.set_cons_zero, List.set_cons_succ, zd, zf]; rfl
          refine zo (i := 3) (N := some 34) (v := ?_) (a' := ?_) #[true, false, false, true, false, false, false, false, false, false] rfl rfl (zh HT_.out (by kernel_rfl)) (fun _ _ _ h => h) (Or.inl ⟨by rfl, ?_⟩) ?_ ?_
          rotate_left
          ·intro w'; go_simp; with_reducible rfl
          rotate_left
          ·simp only [Act.put, List.setIfInBounds_toArray, List.set_cons_zero, List.set_cons_succ, zd, zf]; rfl
          refine zo (i := 4) (N := some 35) (v := ?_) (a' := ?_) #[true, false, false, true, true, false, false, false, false, false] rfl rfl (zh HT_.out (by kernel_rfl)) (fun _ _ _ h => h) (Or.inl ⟨by rfl, ?_⟩) ?_ ?_
          rotate_left
          ·intro w'; go_simp; with_reducible rfl
          rotate_left
          ·simp only [Act.put, List.setIfInBounds_toArray, List.set_cons_zero, List.set_cons_succ, zd, zf]; rfl
          refine qa (i := 1) (N := some 32) (v := ?_) (a' := ?_) #[true, true, false, true, true, false, false, false, false, false] rfl rfl (zA HT_.out HW_.out (by kernel_rfl)) (fun _ _ _ h => h) (Or.inl ⟨by rfl, ?_⟩) hHeld ?_ ?_
          rotate_left
          ·rintro w' ⟨s0, s1, s2, s3, s4, s5, s6, s7⟩; go_simp; with_reducible rfl
          rotate_left
          ·simp only [Act.put, List.setIfInBounds_toArray, List.set_cons_zero, List.set_cons_succ, zd, zf]; rfl
          refine qa (i := 2) (N := some 33) (v := ?_) (a' := ?_) #[true, true, true, true, true, false, false, false, false, false] rfl rfl (zA HT_.out HW_.out (by kernel_rfl)) (fun _ _ _ h => h) (Or.inl ⟨by rfl, ?_⟩) hHeld ?_ ?_
          rotate_left
          ·rintro w' ⟨s0, s1, s2, s3, s4, s5, s6, s7⟩; go_simp; with_reducible rfl
          rotate_left
          ·simp only [Act.put, List.setIfInBounds_toArray, List.set_cons_zero, List.set_cons_succ, zd, zf]; rfl
          refine ZP (i := 5) (N := some 36) #[true, true, true, true, true, true, false, false, false, false] rfl rfl (ji HT_.out (by kernel_rfl)) (by decide) (fun K hK => ?_)
          refine Z0 Try.func40 (by kernel_rfl) rfl #[.agg #[.int .i64 a0_0, .int .i64 a0_1, .int .i64 a0_2, .slice A0_3 l0_3.length c0_3], .int .i64 x7_1, .int .i64 (rd t292 x27_2)] (by rfl) rfl rfl sqM ?_
          with_reducible refine (jd.calls a0_0 a0_1 a0_2 _ _ l0_3 x7_1 (rd t292 x27_2) t297 _ ?side1 ?side2 A21.out).mono ?_
          (case side1 => exact sqC (Kd.z7 HR0_3.out HB.out))
          (case side2 => exact HC0_3.out)
          rintro e w24 ⟨rfl, hb⟩
          refine ⟨_, rfl, ?_⟩
          have n0_ := Aside0.mk (Kd.qo (sqR HO_5.out) hb)
          have n1_ := Aside0.mk (Kd.qo (sqR HO_25.out) hb)
          have n2_ := Aside0.mk (Kd.qo (sqR HO_296003.out) hb)
          have n3_ := Aside0.mk (zq (g := gb290) (o := .cells #[.int .i64 a0_0, .int .i64 a0_1, .int .i64 a0_2, .slice A0_3 l0_3.length c0_3] 27 (0, 0)) (sqK BK290.out) hb)
          have n4_ := Aside0.mk (zq (g := gb291) (o := .cells #[.int .i64 0, .int .i64 0, .int .i64 0, .slice none 0 0] 27 (0, 0)) (sqK BK291.out) hb)
          have n5_ := Aside0.mk (zq (g := gb295) (o := .cells #[.int .i64 a0_0, .int .i64 a0_1, .int .i64 (t292.length : Int), u296003] 27 (0, 0)) (sqK BK295.out) hb)
          have n6_ := Aside0.mk (zj sqB hb)
          clear HO_5 HO_25 HO_296003 BK290 BK291 BK295 HB; have HO_5 := n0_; have HO_25 := n1_; have HO_296003 := n2_; have BK290 := n3_; have BK291 := n4_; have BK295 := n5_; have HB := n6_; clear n0_ n1_ n2_ n3_ n4_ n5_ n6_; (try clear hb); (try clear hb2); (try clear hk); (try clear hi)
          refine hK.out _ _ ⟨(zb BK295.out 0).trans rfl, (zb BK295.out 1).trans rfl, (zb BK295.out 2).trans rfl, (zb BK295.out 3).trans rfl, (zb BK290.out 0).trans rfl, (zb BK290.out 1).trans rfl, (zb BK290.out 2).trans rfl, (zb BK290.out 3).trans rfl⟩ (fun hHeld => ?_)
          clear hK K
          refine yC (a' := ?_) ?_ ?_
          rotate_left
          ·show Act.put _ (some 36) _ = _; simp only [Act.put, List.setIfInBounds_toArray, List.set_cons_zero, List.set_cons_succ, zd, zf]; rfl
          refine ZP (i := 6) (N := some 37) #[true, true, true, true, true, true, true, false, false, false] rfl rfl (ji HT_.out (by kernel_rfl)) (by decide) (fun K hK => ?_)
          refine YW (w1 := ?_) (v := ?_) (by rfl) rfl ?_ ?_
          rotate_left 2
          ·go_simp
           constructor
           ·rfl
           ·rfl
          refine hK.out _ _ ⟨(zb (jl BK295.out _) 0).trans rfl, (zb (jl BK295.out _) 1).trans rfl, (zb (jl BK295.out _) 2).trans rfl, (zb (jl BK295.out _) 3).trans rfl, (zb (jl BK290.out _) 0).trans rfl, (zb (jl BK290.out _) 1).trans rfl, (zb (jl BK290.out _) 2).trans rfl, (zb (jl BK290.out _) 3).trans rfl⟩ (fun hHeld => ?_)
          clear hK K
          refine yC (a' := ?_) ?_ ?_
          rotate_left
          ·show Act.put _ (some 37) _ = _; simp only [Act.put, List.setIfInBounds_toArray, List.set_cons_zero, List.set_cons_succ, zd, zf]; rfl
          refine ZP (i := 7) (N := some 38) #[true, true, true, true, true, true, true, true, false, false] rfl rfl (ji HT_.out (by kernel_rfl)) (by decide) (fun K hK => ?_)
          refine Kd.ZQ (Kd.int .i64) (w0 := w) w.heap.size (by rfl) (.tmp 32) (.tmp 37) 22 3 (.int .i64 0) 8 rfl Try.underlying22 vU rfl (by decide) (by omega) u296003 x296003_2 t297 [.int .i64 t297] (fun k_ => some k_ ≠ (.slice (some ad296) t292.length co9 : Value).ownBlock ∧ some k_ ≠ (.slice (some ad296) t292.length co9 : Value).ownBlock) (fun _ => False) rfl rfl ?aP (fun _ hk => hk.elim) ?aF ?aO ?aB ?aS ?aL ?_
          (case aP => exact rfl)
          (case aB => exact sqB)
          (case aF => exact (fun k_ hk => ⟨Kd.Qr (Kd.ZB (sqR HO_5.out)) k_ hk, Kd.Qr (Kd.ZB (sqR HO_25.out)) k_ hk⟩))
          (case aO => exact (sqR HO_296003.out))
          (case aS => exact (zI sqB))
          (case aL => have := LMc22.out; omega)
          intro v299 w25 ho hb hg hat
          rw [← Ny298.out] at ho
          have n0_ := Aside0.mk (Kd.vY (ok := (fun _ => True)) (by refine sqR ?_; exact Kd.zO HO_5.out (fun _ hk => ⟨trivial, by first | exact hk | exact fun h_ => hk (h_.trans ((fun (A : Option Addr) (x y c : Nat) => (by cases A <;> rfl : (Value.slice A x c).ownBlock = (Value.slice A y c).ownBlock)) _ _ _ _))⟩)) hg hat)
          have n1_ := Aside0.mk (Kd.vY (ok := (fun _ => True)) (by refine sqR ?_; exact Kd.zO HO_25.out (fun _ hk => ⟨trivial, by first | exact hk | exact fun h_ => hk (h_.trans ((fun (A : Option Addr) (x y c : Nat) => (by cases A <;> rfl : (Value.slice A x c).ownBlock = (Value.slice A y c).ownBlock)) _ _ _ _))⟩)) hg hat)
          have n2_ := Aside0.mk (qm (g := gb290) (o := .cells #[.int .i64 a0_0, .int .i64 a0_1, .int .i64 a0_2, .slice A0_3 l0_3.length c0_3] 27 (0, 0)) (sqK BK290.out) hg (Kd.jr HO_296003.out BK290.out (by decide)))
          have n3_ := Aside0.mk (qm (g := gb291) (o := .cells #[.int .i64 0, .int .i64 0, .int .i64 0, .slice none 0 0] 27 (0, 0)) (sqK BK291.out) hg (Kd.jr HO_296003.out BK291.out (by decide)))
          have n4_ := Aside0.mk (qm (g := gb295) (o := .cells #[.int .i64 a0_0, .int .i64 a0_1, .int .i64 (t292.length : Int), u296003] 27 (0, 0)) (sqK BK295.out) hg (Kd.jr HO_296003.out BK295.out (by decide)))
          have n5_ := Aside0.mk (hb)
          have n6_ := Aside0.mk (ho)
          clear HO_5 HO_25 BK290 BK291 BK295 HB HO_296003; have HO_5 := n0_; have HO_25 := n1_; have BK290 := n2_; have BK291 := n3_; have BK295 := n4_; have HB := n5_; have HO300 := n6_; clear n0_ n1_ n2_ n3_ n4_ n5_ n6_ ho hb hg hat
          obtain ⟨Ao26, co26, eo26⟩ := Kd.z1 HO300.out
          (first | subst eo26 | (injection eo26 with f1_ f2_ f3_; have f4_ := f1_.symm; have f5_ := f3_.symm; clear f1_ f2_ f3_; subst f4_; subst f5_))
          refine hK.out _ _ ⟨(zb BK295.out 0).trans rfl, (zb BK295.out 1).trans rfl, (zb BK295.out 2).trans rfl, (zb BK295.out 3).trans rfl, (zb BK290.out 0).trans rfl, (zb BK290.out 1).trans rfl, (zb BK290.out 2).trans rfl, (zb BK290.out 3).trans rfl⟩ (fun hHeld => ?_)
          clear hK K
          refine yC (a' := ?_) ?_ ?_
          rotate_left
          ·show Act.put _ (some 38) _ = _; simp only [Act.put, List.setIfInBounds_toArray, List.set_cons_zero, List.set_cons_succ, zd, zf]; rfl
          refine zo (i := 8) (N := some 39) (v := ?_) (a' := ?_) #[true, true, true, true, true, true, true, true, true, false] rfl rfl (zh HT_.out (by kernel_rfl)) (fun _ _ _ h => h) (Or.inl ⟨by rfl, ?_⟩) ?_ ?_
          rotate_left
          ·intro w'; go_simp; with_reducible rfl
          rotate_left
          ·simp only [Act.put, List.setIfInBounds_toArray, List.set_cons_zero, List.set_cons_succ, zd, zf]; rfl
          refine yT (i := 9) (N := none) #[true, true, true, true, true, true, true, true, true, true] rfl rfl (ji HT_.out (by kernel_rfl)) (by decide) (fun K hK => ?_)
          have hs27 : w25.cell? ⟨gb295, 3, none⟩ = some (u296003) := (zb BK295.out 3).trans rfl
          have hfs27 := za BK295.out 3
          have hns27_0 := NB290_295.out
          have hns27_1 := NB291_295.out
          have hms27_0 := NB295_290.out
          have hms27_1 := NB295_291.out
          refine yi (w1 := ?_) (by rfl) rfl ?_ ?_
          rotate_left
          ·go_simp
           rfl
          refine hK.out _ _ ?_
          clear hK K
          refine vM (jE HT_.out (by kernel_rfl)) ?_
          try go_wp2
          go_roundg k2
          case measure => have := HK1.out; have := HK2.out; omega
          case rel => exact ⟨(wrap64 (x27_2 + 1)), (y298), (.slice Ao26 y298.length co26), (sqD), H', ⟨by have := HK1.out; have := HK2.out; omega⟩, ⟨by refine sqR ?_; exact Kd.zO (Kd.zP (p := ⟨gb295, 3, none⟩) (Kd.qt HO_5.out BK295.out (by decide)) (fun _ hk => hk.2) (.slice Ao26 y298.length co26)) (fun _ hk => hk.1.2)⟩, ⟨by refine sqR ?_; exact Kd.zO (Kd.zP (p := ⟨gb295, 3, none⟩) (Kd.qt HO_25.out BK295.out (by decide)) (fun _ hk => hk.2) (.slice Ao26 y298.length co26)) (fun _ hk => hk.1.2)⟩, ⟨by refine sqR ?_; exact Kd.zO (Kd.zP (p := ⟨gb295, 3, none⟩) (Kd.qt HO300.out BK295.out (by decide)) (fun _ hk => hk.2) (.slice Ao26 y298.length co26)) (fun _ hk => by first | exact ⟨hk.1.1, hk.1.2⟩ | (refine ⟨?_, ?_⟩ <;> intro e_ <;> simp only [e_, ne_eq, not_true_eq_false, and_false, false_and] at hk))⟩, ⟨by refine sqK ?_; refine zB ?_ NB290_295.out _; refine sqK ?_; exact BK290.out⟩, ⟨by refine sqK ?_; refine zB ?_ NB291_295.out _; refine sqK ?_; exact BK291.out⟩, ⟨by refine sqK ?_; refine zG (cs := #[.int .i64 a0_0, .int .i64 a0_1, .int .i64 (t292.length : Int), u296003]) ?_ 3 _ rfl; refine sqK ?_; exact BK295.out⟩, ⟨sqB⟩⟩
         ·rw [if_neg c22] at H
          exact absurd H (by simp)
        ·rw [if_neg c20] at H
         exact absurd H (by simp)
       ·rw [if_neg c19] at H
        exact absurd H (by simp)
      ·rw [if_neg c18] at H
       have c18b0 : decide (x27_2 < (t292.length : Int)) = false := decide_eq_false c18
       clear c18
       have H' := Aside0.mk H
       clear H
       go_wp2
       go_roundg k2
       case measure => have := HK1.out; have := HK2.out; omega
       case rel => exact ⟨(wrap64 (x7_1 + 1)), (x296003_2), (u296003), (sqD), H', ⟨by have := HK1.out; have := HK2.out; omega⟩, ⟨sqR HO_5.out⟩, ⟨by refine sqR ?_; exact Kd.zO HO_296003.out (fun _ hk => hk.1)⟩, ⟨sqK BK290.out⟩, ⟨sqK BK291.out⟩, ⟨sqK BK295.out⟩, ⟨sqB⟩⟩
   ·rw [if_neg c14] at H
    have c14b0 : decide (x7_1 < a0_1) = false := decide_eq_false c14
    clear c14
    simp only [Option.some.injEq, Prod.mk.injEq] at H
    obtain ⟨rfl, rfl, rfl, rfl⟩ := H
    have hnb28 := NB290_291.out
    have hnc28 := NB291_290.out
    have hnb29 := NB290_295.out
    have hnc29 := NB295_290.out
    have hcz30_0 : wr.cell? ⟨gb290, 0, none⟩ = some (.int .i64 a0_0) := (zb BK290.out 0).trans rfl
    have hcz30_1 : wr.cell? ⟨gb290, 1, none⟩ = some (.int .i64 a0_1) := (zb BK290.out 1).trans rfl
    have hcz30_2 : wr.cell? ⟨gb290, 2, none⟩ = some (.int .i64 a0_2) := (zb BK290.out 2).trans rfl
    have hcz30_3 : wr.cell? ⟨gb290, 3, none⟩ = some (.slice A0_3 l0_3.length c0_3) := (zb BK290.out 3).trans rfl
    have hfz30_0 := za BK290.out 0; have hfz30_1 := za BK290.out 1; have hfz30_2 := za BK290.out 2; have hfz30_3 := za BK290.out 3
    have hnb31 := NB295_291.out
    have hnc31 := NB291_295.out
    have hcz32_0 : wr.cell? ⟨gb295, 0, none⟩ = some (.int .i64 a0_0) := (zb BK295.out 0).trans rfl
    have hcz32_1 : wr.cell? ⟨gb295, 1, none⟩ = some (.int .i64 a0_1) := (zb BK295.out 1).trans rfl
    have hcz32_2 : wr.cell? ⟨gb295, 2, none⟩ = some (.int .i64 (t292.length : Int)) := (zb BK295.out 2).trans rfl
    have hcz32_3 : wr.cell? ⟨gb295, 3, none⟩ = some (u296003) := (zb BK295.out 3).trans rfl
    have hfz32_0 := za BK295.out 0; have hfz32_1 := za BK295.out 1; have hfz32_2 := za BK295.out 2; have hfz32_3 := za BK295.out 3
    have hcz33_0 : wr.cell? ⟨gb291, 0, none⟩ = some (.int .i64 0) := (zb BK291.out 0).trans rfl
    have hcz33_1 : wr.cell? ⟨gb291, 1, none⟩ = some (.int .i64 0) := (zb BK291.out 1).trans rfl
    have hcz33_2 : wr.cell? ⟨gb291, 2, none⟩ = some (.int .i64 0) := (zb BK291.out 2).trans rfl
    have hcz33_3 : wr.cell? ⟨gb291, 3, none⟩ = some (.slice none 0 0) := (zb BK291.out 3).trans rfl
    have hfz33_0 := za BK291.out 0; have hfz33_1 := za BK291.out 1; have hfz33_2 := za BK291.out 2; have hfz33_3 := za BK291.out 3
    obtain ⟨Ao34, co34, eo34⟩ := Kd.z1 HO_296003.out
    subst eo34
    go_wp2
    refine bodyPost_ret (results_cell_row rfl _ _ gb291 27 #[.int .i64 a0_0, .int .i64 a0_1, .int .i64 (t292.length : Int), .slice Ao34 x296003_1.length co34] (0, 0) _ rfl (by refine sqK ?_; refine zG (cs := #[.int .i64 a0_0, .int .i64 a0_1, .int .i64 (t292.length : Int), .slice none 0 0]) ?_ 3 _ rfl; refine sqK ?_; refine zG (cs := #[.int .i64 a0_0, .int .i64 a0_1, .int .i64 0, .slice none 0 0]) ?_ 2 _ rfl; refine sqK ?_; refine zG (cs := #[.int .i64 a0_0, .int .i64 0, .int .i64 0, .slice none 0 0]) ?_ 1 _ rfl; refine sqK ?_; refine zG (cs := #[.int .i64 0, .int .i64 0, .int .i64 0, .slice none 0 0]) ?_ 0 _ rfl; refine sqK ?_; exact BK291.out) Try.underlying27 rfl (by kernel_rfl)) rfl ?_
    exact ⟨_, sqE, by refine sqR ?_; exact Kd.zO (Kd.zP (p := ⟨gb291, 3, none⟩) (Kd.zP (p := ⟨gb291, 2, none⟩) (Kd.zP (p := ⟨gb291, 1, none⟩) (Kd.zP (p := ⟨gb291, 0, none⟩) (Kd.qt HO_296003.out BK291.out (by decide)) (fun _ hk => hk.2) (.int .i64 a0_0)) (fun _ hk => hk.2) (.int .i64 a0_1)) (fun _ hk => hk.2) (.int .i64 (t292.length : Int))) (fun _ hk => hk.2) (.slice Ao34 x296003_1.length co34)) (fun _ hk => trivial), sqB⟩

end Go.Proofs.Ytopkfhnnapncgaa.F
end
